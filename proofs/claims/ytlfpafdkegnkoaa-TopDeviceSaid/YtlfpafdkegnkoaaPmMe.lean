/- Texts of this proof in one file: PmKc, PmFa, PmFb, PmFc, PmFd, PmFe, PmFg, PmFh, PmFi, PmFj. No law of Go's is stated here. -/
import Derived.Test.YtlfpafdkegnkoaaPmMd
set_option linter.all false
set_option maxRecDepth 100000
namespace Go.Proofs.Ytlfpafdkegnkoaa.Pm
open Go Go.RowKit
def c_frame_Encode : C := (.seq (.seq (.reg ([⟨some 1, .box 47 (.tmp 0), none⟩, ⟨some 2, .assign (.const (.slice none 0 0)), none⟩, ⟨some 3, .assign (.const (.int .i64 0)), none⟩])) (.keep [1])) (.seq (.seq (.seq (.reg ([⟨some 4, .load 47 (.tmp 1), none⟩, ⟨some 5, .call { callee := .value (.func 34), args := #[(.tmp 4)], argTypes := #[47] }, none⟩, ⟨some 6, .unOp .not 4 (.tmp 5), none⟩])) (.keep [1, 6])) (.cond (.tmp 6) (.seq (.seq (.reg ([⟨some 2, .assign (.const (.slice none 0 0)), none⟩, ⟨some 3, .assign (.const (.int .i64 8)), none⟩])) (.keep [2, 3])) .ret) .skip)) (.seq (.seq (.reg ([⟨some 7, .load 47 (.tmp 1), none⟩, ⟨some 8, .call { callee := .value (.func 35), args := #[(.const (.slice none 0 0)), (.tmp 7)], argTypes := #[24, 47] }, none⟩, ⟨some 2, .assign (.tmp 8), none⟩, ⟨some 3, .assign (.const (.int .i64 0)), none⟩])) (.keep [2, 3])) .ret)))
attribute [go_sem ↓] c_frame_Encode
def h_frame_Encode : List Hint := [⟨[], [1], []⟩, ⟨[], [1, 6], []⟩, ⟨[], [2, 3], []⟩, ⟨[], [2, 3], []⟩]
theorem b_frame_Encode : Body Try.prog 11 [] h_frame_Encode c_frame_Encode 9 [.tmp 2, .tmp 3] := body_of Try.func11 (by kernel_rfl) (by kernel_rfl) (by kernel_rfl) (by kernel_rfl)
def c_frame_valid : C := (.seq (.seq (.reg ([⟨some 1, .box 47 (.tmp 0), none⟩, ⟨some 2, .assign (.const (.bool false)), none⟩])) (.keep [1])) (.seq (.seq (.reg ([⟨some 3, .fieldAddr 47 (.tmp 1) 0, none⟩, ⟨some 4, .load 3 (.tmp 3), none⟩, ⟨some 5, .binOp .leq 3 (.const (.int .i64 0)) (.tmp 4) 3, none⟩, ⟨some 6, .move (.tmp 5), none⟩, ⟨some 7, .fieldAddr 47 (.tmp 1) 0, some (6, true)⟩, ⟨some 8, .load 3 (.tmp 7), some (6, true)⟩, ⟨some 9, .binOp .leq 3 (.tmp 8) (.const (.int .i64 1000000000)) 3, some (6, true)⟩, ⟨some 10, .pick (.tmp 6) (.tmp 9) (.const (.bool false)), none⟩, ⟨some 11, .move (.tmp 10), none⟩, ⟨some 12, .fieldAddr 47 (.tmp 1) 1, some (11, true)⟩, ⟨some 13, .load 24 (.tmp 12), some (11, true)⟩, ⟨some 14, .call { callee := .builtin .len, args := #[(.tmp 13)], argTypes := #[24] }, some (11, true)⟩, ⟨some 15, .binOp .leq 3 (.tmp 14) (.const (.int .i64 1000)) 3, some (11, true)⟩, ⟨some 16, .pick (.tmp 11) (.tmp 15) (.const (.bool false)), none⟩, ⟨some 2, .assign (.tmp 16), none⟩])) (.keep [2])) .ret))
attribute [go_sem ↓] c_frame_valid
def h_frame_valid : List Hint := [⟨[], [1], []⟩, ⟨[], [2], []⟩]
theorem b_frame_valid : Body Try.prog 34 [] h_frame_valid c_frame_valid 17 [.tmp 2] := body_of Try.func34 (by kernel_rfl) (by kernel_rfl) (by kernel_rfl) (by kernel_rfl)
def c_frame_write : C := (.seq (.seq (.reg ([⟨some 3, .box 47 (.tmp 1), none⟩, ⟨some 4, .assign (.const (.slice none 0 0)), none⟩])) (.keep [0, 3])) (.seq (.seq (.draw ([⟨⟨some 6, .fieldAddr 47 (.tmp 3) 1, none⟩, []⟩, ⟨⟨some 7, .load 24 (.tmp 6), none⟩, []⟩, ⟨⟨some 8, .call { callee := .builtin .len, args := #[(.tmp 7)], argTypes := #[24] }, none⟩, []⟩, ⟨⟨some 9, .convert 3 82 (.tmp 8), none⟩, []⟩, ⟨⟨some 10, .call { callee := .value (.func 71), args := #[(.const (.slice none 0 0)), (.tmp 9)], argTypes := #[24, 82] }, none⟩, []⟩, ⟨⟨some 11, .fieldAddr 47 (.tmp 3) 0, none⟩, [0, 1, 2, 3, 4]⟩, ⟨⟨some 12, .load 3 (.tmp 11), none⟩, [0, 1, 2, 3, 4]⟩, ⟨⟨some 13, .convert 3 82 (.tmp 12), none⟩, [0, 1, 2, 3, 4]⟩, ⟨⟨some 14, .call { callee := .value (.func 71), args := #[(.tmp 10), (.tmp 13)], argTypes := #[24, 82] }, none⟩, []⟩, ⟨⟨some 5, .assign (.tmp 14), none⟩, []⟩])) (.keep [0, 3, 5])) (.seq (.seq (.draw ([⟨⟨some 15, .move (.tmp 0), none⟩, []⟩, ⟨⟨some 16, .move (.tmp 5), none⟩, [0]⟩, ⟨⟨some 17, .move (.tmp 5), none⟩, [0, 1]⟩, ⟨⟨some 18, .fieldAddr 47 (.tmp 3) 1, none⟩, [0, 1, 2]⟩, ⟨⟨some 19, .load 24 (.tmp 18), none⟩, [0, 1, 2]⟩, ⟨⟨some 20, .call { callee := .value (.func 73), args := #[(.tmp 17), (.tmp 19)], argTypes := #[24, 24] }, none⟩, [0, 1]⟩, ⟨⟨some 21, .call { callee := .value (.func 71), args := #[(.tmp 16), (.tmp 20)], argTypes := #[24, 82] }, none⟩, [0]⟩, ⟨⟨some 22, .fieldAddr 47 (.tmp 3) 1, none⟩, [0, 1, 2, 3, 4, 5, 6]⟩, ⟨⟨some 23, .load 24 (.tmp 22), none⟩, [0, 1, 2, 3, 4, 5, 6]⟩, ⟨⟨some 24, .buildSlice 138 3 #[(0, (.tmp 15)), (1, (.tmp 21)), (2, (.tmp 23))], none⟩, []⟩, ⟨⟨some 25, .call { callee := .value (.func 72), args := #[(.tmp 24)], argTypes := #[138] }, none⟩, []⟩, ⟨⟨some 4, .assign (.tmp 25), none⟩, []⟩])) (.keep [4])) .ret)))
attribute [go_sem ↓] c_frame_write
def h_frame_write : List Hint := [⟨[], [0, 3], []⟩, ⟨[], [0, 3, 5], []⟩, ⟨[], [4], []⟩]
theorem b_frame_write : Body Try.prog 35 [] h_frame_write c_frame_write 26 [.tmp 4] := body_of Try.func35 (by kernel_rfl) (by kernel_rfl) (by kernel_rfl) (by kernel_rfl)
def kc0 : C := (.seq (.seq (.reg ([⟨some 2, .assign (.const (.slice none 0 0)), none⟩, ⟨some 3, .assign (.const (.int .i64 0)), none⟩, ⟨some 4, .assign (.const (.int .i64 4)), none⟩])) (.keep [2, 3, 4])) .ret)
@[go_sem ↓] def uq0 := @unC _ _ kc0.eq_1
def kc1 : C := (.cond (.tmp 13) kc0 .skip)
@[go_sem ↓] def uq1 := @unC _ _ kc1.eq_1
def kc2 : C := (.cond (.tmp 19) (.goto 1) .skip)
@[go_sem ↓] def uq2 := @unC _ _ kc2.eq_1
def r_frame_Scan_3 : List I := [⟨some 9, .assign (.tmp 21), none⟩]
@[go_sem ↓] def uq3 := @unI _ _ r_frame_Scan_3.eq_1
def kc3 : C := (.cond (.tmp 31) (.goto 1) .skip)
@[go_sem ↓] def uq4 := @unC _ _ kc3.eq_1
def kc4 : C := (.seq (.seq (.reg ([⟨some 22, .move (.tmp 9), none⟩, ⟨some 23, .binOp .gtr 82 (.tmp 22) (.const (.int .u32 1000)) 82, none⟩, ⟨some 24, .move (.tmp 23), none⟩, ⟨some 25, .move (.tmp 9), some (24, false)⟩, ⟨some 26, .convert 82 3 (.tmp 25), some (24, false)⟩, ⟨some 27, .move (.tmp 8), some (24, false)⟩, ⟨some 28, .call { callee := .builtin .len, args := #[(.tmp 27)], argTypes := #[24] }, some (24, false)⟩, ⟨some 29, .binOp .sub 3 (.tmp 28) (.const (.int .i64 12)) 3, some (24, false)⟩, ⟨some 30, .binOp .gtr 3 (.tmp 26) (.tmp 29) 3, some (24, false)⟩, ⟨some 31, .pick (.tmp 24) (.const (.bool true)) (.tmp 30), none⟩])) (.keep [0, 5, 6, 7, 8, 31])) kc3)
@[go_sem ↓] def uq5 := @unC _ _ kc4.eq_1
def r_frame_Scan_6 : List I := [⟨some 43, .build 47 #[(0, (.tmp 35)), (1, (.tmp 42))], none⟩, ⟨none, .store 47 (.tmp 6) (.tmp 43), none⟩]
@[go_sem ↓] def uq6 := @unI _ _ r_frame_Scan_6.eq_1
def r_frame_Scan_7 : List I := ⟨some 39, .convert 82 3 (.tmp 38), none⟩ :: ⟨some 40, .binOp .add 3 (.const (.int .i64 12)) (.tmp 39) 3, none⟩ :: ⟨some 41, .slice 24 (.tmp 36) (some (.const (.int .i64 12))) (some (.tmp 40)) none, none⟩ :: ⟨some 42, .call { callee := .value (.func 77), args := #[(.tmp 41)], argTypes := #[24] }, none⟩ :: r_frame_Scan_6
@[go_sem ↓] def uq7 := @unI _ _ r_frame_Scan_7.eq_1
def r_frame_Scan_8 : List I := ⟨some 35, .convert 82 3 (.tmp 34), none⟩ :: ⟨some 36, .move (.tmp 8), none⟩ :: ⟨some 37, .move (.tmp 8), none⟩ :: ⟨some 38, .call { callee := .value (.func 76), args := #[(.tmp 37)], argTypes := #[24] }, none⟩ :: r_frame_Scan_7
@[go_sem ↓] def uq8 := @unI _ _ r_frame_Scan_8.eq_1
def d_frame_Scan_9 : List D := [⟨⟨some 56, .binOp .neq 82 (.tmp 50) (.tmp 55) 82, some (47, false)⟩, []⟩, ⟨⟨some 57, .pick (.tmp 47) (.const (.bool true)) (.tmp 56), none⟩, []⟩]
@[go_sem ↓] def uq9 := @unD _ _ d_frame_Scan_9.eq_1
def d_frame_Scan_10 : List D := ⟨⟨some 51, .move (.tmp 8), some (47, false)⟩, [4, 5, 6]⟩ :: ⟨⟨some 52, .slice 24 (.tmp 51) none (some (.const (.int .i64 8))) none, some (47, false)⟩, [4, 5, 6]⟩ :: ⟨⟨some 53, .fieldAddr 47 (.tmp 6) 1, some (47, false)⟩, [4, 5, 6, 7, 8]⟩ :: ⟨⟨some 54, .load 24 (.tmp 53), some (47, false)⟩, [4, 5, 6, 7, 8]⟩ :: ⟨⟨some 55, .call { callee := .value (.func 73), args := #[(.tmp 52), (.tmp 54)], argTypes := #[24, 24] }, some (47, false)⟩, []⟩ :: d_frame_Scan_9
@[go_sem ↓] def uq10 := @unD _ _ d_frame_Scan_10.eq_1
def kc5 : C := (.cond (.tmp 57) (.goto 1) .skip)
@[go_sem ↓] def uq11 := @unC _ _ kc5.eq_1
def kc6 : C := (.cond (.tmp 73) (.goto 1) .skip)
@[go_sem ↓] def uq12 := @unC _ _ kc6.eq_1
def kc7 : C := (.seq (.seq (.draw ([⟨⟨some 60, .move (.tmp 10), none⟩, []⟩, ⟨⟨some 61, .binOp .gtr 3 (.tmp 60) (.const (.int .i64 0)) 3, none⟩, []⟩, ⟨⟨some 62, .move (.tmp 61), none⟩, []⟩, ⟨⟨some 63, .move (.tmp 5), some (62, true)⟩, []⟩, ⟨⟨some 64, .move (.tmp 10), some (62, true)⟩, [3]⟩, ⟨⟨some 65, .binOp .sub 3 (.tmp 64) (.const (.int .i64 1)) 3, some (62, true)⟩, [3]⟩, ⟨⟨some 66, .indexAddr 96 (.tmp 63) (.tmp 65), some (62, true)⟩, []⟩, ⟨⟨some 67, .fieldAddr 47 (.tmp 66) 0, some (62, true)⟩, []⟩, ⟨⟨some 68, .load 3 (.tmp 67), some (62, true)⟩, []⟩, ⟨⟨some 69, .binOp .add 3 (.tmp 68) (.const (.int .i64 1)) 3, some (62, true)⟩, []⟩, ⟨⟨some 70, .fieldAddr 47 (.tmp 6) 0, some (62, true)⟩, [3, 4, 5, 6, 7, 8, 9]⟩, ⟨⟨some 71, .load 3 (.tmp 70), some (62, true)⟩, [3, 4, 5, 6, 7, 8, 9]⟩, ⟨⟨some 72, .binOp .neq 3 (.tmp 69) (.tmp 71) 3, some (62, true)⟩, []⟩, ⟨⟨some 73, .pick (.tmp 62) (.tmp 72) (.const (.bool false)), none⟩, []⟩])) (.keep [0, 5, 6, 7, 73])) kc6)
@[go_sem ↓] def uq13 := @unC _ _ kc7.eq_1
def kc8 : C := (.seq (.seq (.reg ([⟨some 84, .move (.tmp 5), none⟩, ⟨some 85, .move (.tmp 7), none⟩, ⟨some 2, .assign (.tmp 84), none⟩, ⟨some 3, .assign (.tmp 85), none⟩, ⟨some 4, .assign (.const (.int .i64 0)), none⟩])) (.keep [2, 3, 4])) .ret)
@[go_sem ↓] def uq14 := @unC _ _ kc8.eq_1
def kc9 : C := (.seq .label kc8)
@[go_sem ↓] def uq15 := @unC _ _ kc9.eq_1
def kc10 : C := (.seq (.goto 0) kc9)
@[go_sem ↓] def uq16 := @unC _ _ kc10.eq_1
def kc11 : C := (.seq (.seq (.reg ([⟨some 78, .move (.tmp 7), none⟩, ⟨some 79, .fieldAddr 47 (.tmp 6) 1, none⟩, ⟨some 80, .load 24 (.tmp 79), none⟩, ⟨some 81, .call { callee := .builtin .len, args := #[(.tmp 80)], argTypes := #[24] }, none⟩, ⟨some 82, .binOp .add 3 (.const (.int .i64 12)) (.tmp 81) 3, none⟩, ⟨some 83, .binOp .add 3 (.tmp 78) (.tmp 82) 3, none⟩, ⟨some 7, .assign (.tmp 83), none⟩])) (.keep [0, 5, 6, 7])) kc10)
@[go_sem ↓] def uq17 := @unC _ _ kc11.eq_1
def kc12 : C := (.seq (.seq (.reg ([⟨some 74, .move (.tmp 5), none⟩, ⟨some 75, .load 47 (.tmp 6), none⟩, ⟨some 76, .buildSlice 96 1 #[(0, (.tmp 75))], none⟩, ⟨some 77, .call { callee := .builtin .append, args := #[(.tmp 74), (.tmp 76)], argTypes := #[96, 96] }, none⟩, ⟨some 5, .assign (.tmp 77), none⟩])) (.keep [0, 5, 6, 7])) kc11)
@[go_sem ↓] def uq18 := @unC _ _ kc12.eq_1
def kc13 : C := (.seq (.seq (.seq (.reg ([⟨some 58, .move (.tmp 5), none⟩, ⟨some 59, .call { callee := .builtin .len, args := #[(.tmp 58)], argTypes := #[96] }, none⟩, ⟨some 10, .assign (.tmp 59), none⟩])) (.keep [0, 5, 6, 7, 10])) kc7) kc12)
@[go_sem ↓] def uq19 := @unC _ _ kc13.eq_1
def kc14 : C := (.seq (.seq (.seq (.draw (⟨⟨some 44, .fieldAddr 47 (.tmp 6) 0, none⟩, []⟩ :: ⟨⟨some 45, .load 3 (.tmp 44), none⟩, []⟩ :: ⟨⟨some 46, .binOp .gtr 3 (.tmp 45) (.const (.int .i64 1000000000)) 3, none⟩, []⟩ :: ⟨⟨some 47, .move (.tmp 46), none⟩, []⟩ :: ⟨⟨some 48, .move (.tmp 8), some (47, false)⟩, []⟩ :: ⟨⟨some 49, .slice 24 (.tmp 48) (some (.const (.int .i64 8))) none none, some (47, false)⟩, []⟩ :: ⟨⟨some 50, .call { callee := .value (.func 76), args := #[(.tmp 49)], argTypes := #[24] }, some (47, false)⟩, []⟩ :: d_frame_Scan_10)) (.keep [0, 5, 6, 7, 57])) kc5) kc13)
@[go_sem ↓] def uq20 := @unC _ _ kc14.eq_1
def kc15 : C := (.seq (.seq (.reg (⟨some 32, .move (.tmp 8), none⟩ :: ⟨some 33, .slice 24 (.tmp 32) (some (.const (.int .i64 4))) none none, none⟩ :: ⟨some 34, .call { callee := .value (.func 76), args := #[(.tmp 33)], argTypes := #[24] }, none⟩ :: r_frame_Scan_8)) (.keep [0, 5, 6, 7, 8])) kc14)
@[go_sem ↓] def uq21 := @unC _ _ kc15.eq_1
def kc16 : C := (.seq (.seq (.seq (.reg (⟨some 20, .move (.tmp 8), none⟩ :: ⟨some 21, .call { callee := .value (.func 76), args := #[(.tmp 20)], argTypes := #[24] }, none⟩ :: r_frame_Scan_3)) (.keep [0, 5, 6, 7, 8, 9])) kc4) kc15)
@[go_sem ↓] def uq22 := @unC _ _ kc16.eq_1
def kc17 : C := (.seq (.seq (.seq (.reg ([⟨some 17, .move (.tmp 8), none⟩, ⟨some 18, .call { callee := .builtin .len, args := #[(.tmp 17)], argTypes := #[24] }, none⟩, ⟨some 19, .binOp .lss 3 (.tmp 18) (.const (.int .i64 12)) 3, none⟩])) (.keep [0, 5, 6, 7, 8, 19])) kc2) kc16)
@[go_sem ↓] def uq23 := @unC _ _ kc17.eq_1
def kc18 : C := (.seq (.seq (.reg ([⟨some 14, .move (.tmp 0), none⟩, ⟨some 15, .move (.tmp 7), none⟩, ⟨some 16, .slice 24 (.tmp 14) (some (.tmp 15)) none none, none⟩, ⟨some 8, .assign (.tmp 16), none⟩])) (.keep [0, 5, 6, 7, 8])) kc17)
@[go_sem ↓] def uq24 := @unC _ _ kc18.eq_1
def kc19 : C := (.seq .label kc18)
@[go_sem ↓] def uq25 := @unC _ _ kc19.eq_1
def kc20 : C := (.seq (.seq (.reg ([⟨some 7, .assign (.const (.int .i64 0)), none⟩])) (.keep [0, 5, 6, 7])) kc19)
@[go_sem ↓] def uq26 := @unC _ _ kc20.eq_1
def kc21 : C := (.seq (.seq (.reg ([⟨some 6, .alloc 47, none⟩])) (.keep [0, 5, 6])) kc20)
@[go_sem ↓] def uq27 := @unC _ _ kc21.eq_1
def kc22 : C := (.seq (.seq (.reg ([⟨some 5, .assign (.const (.slice none 0 0)), none⟩])) (.keep [0, 5])) kc21)
@[go_sem ↓] def uq28 := @unC _ _ kc22.eq_1
def kc23 : C := (.seq (.seq (.seq (.reg ([⟨some 11, .move (.tmp 0), none⟩, ⟨some 12, .call { callee := .builtin .len, args := #[(.tmp 11)], argTypes := #[24] }, none⟩, ⟨some 13, .binOp .gtr 3 (.tmp 12) (.const (.int .i64 20000)) 3, none⟩])) (.keep [0, 13])) kc1) kc22)
@[go_sem ↓] def uq29 := @unC _ _ kc23.eq_1
def kc24 : C := (.cond (.tmp 19) (.goto 1) .skip)
@[go_sem ↓] def uq30 := @unC _ _ kc24.eq_1
def r_frame_Scan_31 : List I := [⟨some 9, .assign (.tmp 21), none⟩]
@[go_sem ↓] def uq31 := @unI _ _ r_frame_Scan_31.eq_1
def kc25 : C := (.cond (.tmp 31) (.goto 1) .skip)
@[go_sem ↓] def uq32 := @unC _ _ kc25.eq_1
def kc26 : C := (.seq (.seq (.reg ([⟨some 22, .move (.tmp 9), none⟩, ⟨some 23, .binOp .gtr 82 (.tmp 22) (.const (.int .u32 1000)) 82, none⟩, ⟨some 24, .move (.tmp 23), none⟩, ⟨some 25, .move (.tmp 9), some (24, false)⟩, ⟨some 26, .convert 82 3 (.tmp 25), some (24, false)⟩, ⟨some 27, .move (.tmp 8), some (24, false)⟩, ⟨some 28, .call { callee := .builtin .len, args := #[(.tmp 27)], argTypes := #[24] }, some (24, false)⟩, ⟨some 29, .binOp .sub 3 (.tmp 28) (.const (.int .i64 12)) 3, some (24, false)⟩, ⟨some 30, .binOp .gtr 3 (.tmp 26) (.tmp 29) 3, some (24, false)⟩, ⟨some 31, .pick (.tmp 24) (.const (.bool true)) (.tmp 30), none⟩])) (.keep [0, 5, 6, 7, 8, 31])) kc25)
@[go_sem ↓] def uq33 := @unC _ _ kc26.eq_1
def r_frame_Scan_34 : List I := [⟨some 43, .build 47 #[(0, (.tmp 35)), (1, (.tmp 42))], none⟩, ⟨none, .store 47 (.tmp 6) (.tmp 43), none⟩]
@[go_sem ↓] def uq34 := @unI _ _ r_frame_Scan_34.eq_1
def r_frame_Scan_35 : List I := ⟨some 39, .convert 82 3 (.tmp 38), none⟩ :: ⟨some 40, .binOp .add 3 (.const (.int .i64 12)) (.tmp 39) 3, none⟩ :: ⟨some 41, .slice 24 (.tmp 36) (some (.const (.int .i64 12))) (some (.tmp 40)) none, none⟩ :: ⟨some 42, .call { callee := .value (.func 77), args := #[(.tmp 41)], argTypes := #[24] }, none⟩ :: r_frame_Scan_34
@[go_sem ↓] def uq35 := @unI _ _ r_frame_Scan_35.eq_1
def r_frame_Scan_36 : List I := ⟨some 35, .convert 82 3 (.tmp 34), none⟩ :: ⟨some 36, .move (.tmp 8), none⟩ :: ⟨some 37, .move (.tmp 8), none⟩ :: ⟨some 38, .call { callee := .value (.func 76), args := #[(.tmp 37)], argTypes := #[24] }, none⟩ :: r_frame_Scan_35
@[go_sem ↓] def uq36 := @unI _ _ r_frame_Scan_36.eq_1
def d_frame_Scan_37 : List D := [⟨⟨some 56, .binOp .neq 82 (.tmp 50) (.tmp 55) 82, some (47, false)⟩, []⟩, ⟨⟨some 57, .pick (.tmp 47) (.const (.bool true)) (.tmp 56), none⟩, []⟩]
@[go_sem ↓] def uq37 := @unD _ _ d_frame_Scan_37.eq_1
def d_frame_Scan_38 : List D := ⟨⟨some 51, .move (.tmp 8), some (47, false)⟩, [4, 5, 6]⟩ :: ⟨⟨some 52, .slice 24 (.tmp 51) none (some (.const (.int .i64 8))) none, some (47, false)⟩, [4, 5, 6]⟩ :: ⟨⟨some 53, .fieldAddr 47 (.tmp 6) 1, some (47, false)⟩, [4, 5, 6, 7, 8]⟩ :: ⟨⟨some 54, .load 24 (.tmp 53), some (47, false)⟩, [4, 5, 6, 7, 8]⟩ :: ⟨⟨some 55, .call { callee := .value (.func 73), args := #[(.tmp 52), (.tmp 54)], argTypes := #[24, 24] }, some (47, false)⟩, []⟩ :: d_frame_Scan_37
@[go_sem ↓] def uq38 := @unD _ _ d_frame_Scan_38.eq_1
def kc27 : C := (.cond (.tmp 57) (.goto 1) .skip)
@[go_sem ↓] def uq39 := @unC _ _ kc27.eq_1
def kc28 : C := (.cond (.tmp 73) (.goto 1) .skip)
@[go_sem ↓] def uq40 := @unC _ _ kc28.eq_1
def kc29 : C := (.seq (.seq (.draw ([⟨⟨some 60, .move (.tmp 10), none⟩, []⟩, ⟨⟨some 61, .binOp .gtr 3 (.tmp 60) (.const (.int .i64 0)) 3, none⟩, []⟩, ⟨⟨some 62, .move (.tmp 61), none⟩, []⟩, ⟨⟨some 63, .move (.tmp 5), some (62, true)⟩, []⟩, ⟨⟨some 64, .move (.tmp 10), some (62, true)⟩, [3]⟩, ⟨⟨some 65, .binOp .sub 3 (.tmp 64) (.const (.int .i64 1)) 3, some (62, true)⟩, [3]⟩, ⟨⟨some 66, .indexAddr 96 (.tmp 63) (.tmp 65), some (62, true)⟩, []⟩, ⟨⟨some 67, .fieldAddr 47 (.tmp 66) 0, some (62, true)⟩, []⟩, ⟨⟨some 68, .load 3 (.tmp 67), some (62, true)⟩, []⟩, ⟨⟨some 69, .binOp .add 3 (.tmp 68) (.const (.int .i64 1)) 3, some (62, true)⟩, []⟩, ⟨⟨some 70, .fieldAddr 47 (.tmp 6) 0, some (62, true)⟩, [3, 4, 5, 6, 7, 8, 9]⟩, ⟨⟨some 71, .load 3 (.tmp 70), some (62, true)⟩, [3, 4, 5, 6, 7, 8, 9]⟩, ⟨⟨some 72, .binOp .neq 3 (.tmp 69) (.tmp 71) 3, some (62, true)⟩, []⟩, ⟨⟨some 73, .pick (.tmp 62) (.tmp 72) (.const (.bool false)), none⟩, []⟩])) (.keep [0, 5, 6, 7, 73])) kc28)
@[go_sem ↓] def uq41 := @unC _ _ kc29.eq_1
def kc30 : C := (.seq (.seq (.reg ([⟨some 84, .move (.tmp 5), none⟩, ⟨some 85, .move (.tmp 7), none⟩, ⟨some 2, .assign (.tmp 84), none⟩, ⟨some 3, .assign (.tmp 85), none⟩, ⟨some 4, .assign (.const (.int .i64 0)), none⟩])) (.keep [2, 3, 4])) .ret)
@[go_sem ↓] def uq42 := @unC _ _ kc30.eq_1
def kc31 : C := (.seq .label kc30)
@[go_sem ↓] def uq43 := @unC _ _ kc31.eq_1
def kc32 : C := (.seq (.goto 0) kc31)
@[go_sem ↓] def uq44 := @unC _ _ kc32.eq_1
def kc33 : C := (.seq (.seq (.reg ([⟨some 78, .move (.tmp 7), none⟩, ⟨some 79, .fieldAddr 47 (.tmp 6) 1, none⟩, ⟨some 80, .load 24 (.tmp 79), none⟩, ⟨some 81, .call { callee := .builtin .len, args := #[(.tmp 80)], argTypes := #[24] }, none⟩, ⟨some 82, .binOp .add 3 (.const (.int .i64 12)) (.tmp 81) 3, none⟩, ⟨some 83, .binOp .add 3 (.tmp 78) (.tmp 82) 3, none⟩, ⟨some 7, .assign (.tmp 83), none⟩])) (.keep [0, 5, 6, 7])) kc32)
@[go_sem ↓] def uq45 := @unC _ _ kc33.eq_1
def kc34 : C := (.seq (.seq (.reg ([⟨some 74, .move (.tmp 5), none⟩, ⟨some 75, .load 47 (.tmp 6), none⟩, ⟨some 76, .buildSlice 96 1 #[(0, (.tmp 75))], none⟩, ⟨some 77, .call { callee := .builtin .append, args := #[(.tmp 74), (.tmp 76)], argTypes := #[96, 96] }, none⟩, ⟨some 5, .assign (.tmp 77), none⟩])) (.keep [0, 5, 6, 7])) kc33)
@[go_sem ↓] def uq46 := @unC _ _ kc34.eq_1
def kc35 : C := (.seq (.seq (.seq (.reg ([⟨some 58, .move (.tmp 5), none⟩, ⟨some 59, .call { callee := .builtin .len, args := #[(.tmp 58)], argTypes := #[96] }, none⟩, ⟨some 10, .assign (.tmp 59), none⟩])) (.keep [0, 5, 6, 7, 10])) kc29) kc34)
@[go_sem ↓] def uq47 := @unC _ _ kc35.eq_1
def kc36 : C := (.seq (.seq (.seq (.draw (⟨⟨some 44, .fieldAddr 47 (.tmp 6) 0, none⟩, []⟩ :: ⟨⟨some 45, .load 3 (.tmp 44), none⟩, []⟩ :: ⟨⟨some 46, .binOp .gtr 3 (.tmp 45) (.const (.int .i64 1000000000)) 3, none⟩, []⟩ :: ⟨⟨some 47, .move (.tmp 46), none⟩, []⟩ :: ⟨⟨some 48, .move (.tmp 8), some (47, false)⟩, []⟩ :: ⟨⟨some 49, .slice 24 (.tmp 48) (some (.const (.int .i64 8))) none none, some (47, false)⟩, []⟩ :: ⟨⟨some 50, .call { callee := .value (.func 76), args := #[(.tmp 49)], argTypes := #[24] }, some (47, false)⟩, []⟩ :: d_frame_Scan_38)) (.keep [0, 5, 6, 7, 57])) kc27) kc35)
@[go_sem ↓] def uq48 := @unC _ _ kc36.eq_1
def kc37 : C := (.seq (.seq (.reg (⟨some 32, .move (.tmp 8), none⟩ :: ⟨some 33, .slice 24 (.tmp 32) (some (.const (.int .i64 4))) none none, none⟩ :: ⟨some 34, .call { callee := .value (.func 76), args := #[(.tmp 33)], argTypes := #[24] }, none⟩ :: r_frame_Scan_36)) (.keep [0, 5, 6, 7, 8])) kc36)
@[go_sem ↓] def uq49 := @unC _ _ kc37.eq_1
def kc38 : C := (.seq (.seq (.seq (.reg (⟨some 20, .move (.tmp 8), none⟩ :: ⟨some 21, .call { callee := .value (.func 76), args := #[(.tmp 20)], argTypes := #[24] }, none⟩ :: r_frame_Scan_31)) (.keep [0, 5, 6, 7, 8, 9])) kc26) kc37)
@[go_sem ↓] def uq50 := @unC _ _ kc38.eq_1
def kc39 : C := (.seq (.seq (.seq (.reg ([⟨some 17, .move (.tmp 8), none⟩, ⟨some 18, .call { callee := .builtin .len, args := #[(.tmp 17)], argTypes := #[24] }, none⟩, ⟨some 19, .binOp .lss 3 (.tmp 18) (.const (.int .i64 12)) 3, none⟩])) (.keep [0, 5, 6, 7, 8, 19])) kc24) kc38)
@[go_sem ↓] def uq51 := @unC _ _ kc39.eq_1
def kc40 : C := (.seq (.seq (.reg ([⟨some 14, .move (.tmp 0), none⟩, ⟨some 15, .move (.tmp 7), none⟩, ⟨some 16, .slice 24 (.tmp 14) (some (.tmp 15)) none none, none⟩, ⟨some 8, .assign (.tmp 16), none⟩])) (.keep [0, 5, 6, 7, 8])) kc39)
@[go_sem ↓] def uq52 := @unC _ _ kc40.eq_1
def kc41 : C := (.seq .skip kc40)
@[go_sem ↓] def uq53 := @unC _ _ kc41.eq_1
def kc42 : C := (.seq (.seq (.reg ([⟨some 84, .move (.tmp 5), none⟩, ⟨some 85, .move (.tmp 7), none⟩, ⟨some 2, .assign (.tmp 84), none⟩, ⟨some 3, .assign (.tmp 85), none⟩, ⟨some 4, .assign (.const (.int .i64 0)), none⟩])) (.keep [2, 3, 4])) .ret)
@[go_sem ↓] def uq54 := @unC _ _ kc42.eq_1
def kc43 : C := (.seq .skip kc42)
@[go_sem ↓] def uq55 := @unC _ _ kc43.eq_1
def kc44 : C := (.scope [(5, 2)] [0, 5, 6, 7] kc23 [(0, kc41), (1, kc43)])
@[go_sem ↓] def uq56 := @unC _ _ kc44.eq_1
def c_frame_Scan : C := (.seq (.seq (.reg ([⟨some 2, .assign (.const (.slice none 0 0)), none⟩, ⟨some 3, .assign (.const (.int .i64 0)), none⟩, ⟨some 4, .assign (.const (.int .i64 0)), none⟩])) (.keep [0])) kc44)
attribute [go_sem ↓] c_frame_Scan
def h_frame_Scan : List Hint := [⟨[], [0], []⟩, ⟨[(5, 2)], [0, 5, 6, 7], [0, 1]⟩, ⟨[], [0, 13], []⟩, ⟨[], [2, 3, 4], []⟩, ⟨[], [0, 5], []⟩, ⟨[], [0, 5, 6], []⟩, ⟨[], [0, 5, 6, 7], []⟩, ⟨[], [0, 5, 6, 7, 8], []⟩, ⟨[], [0, 5, 6, 7, 8, 19], []⟩, ⟨[], [0, 5, 6, 7, 8, 9], []⟩, ⟨[], [0, 5, 6, 7, 8, 31], []⟩, ⟨[], [0, 5, 6, 7, 8], []⟩, ⟨[], [0, 5, 6, 7, 57], []⟩, ⟨[], [0, 5, 6, 7, 10], []⟩, ⟨[], [0, 5, 6, 7, 73], []⟩, ⟨[], [0, 5, 6, 7], []⟩, ⟨[], [0, 5, 6, 7], []⟩, ⟨[], [2, 3, 4], []⟩, ⟨[], [0, 5, 6, 7, 8], []⟩, ⟨[], [0, 5, 6, 7, 8, 19], []⟩, ⟨[], [0, 5, 6, 7, 8, 9], []⟩, ⟨[], [0, 5, 6, 7, 8, 31], []⟩, ⟨[], [0, 5, 6, 7, 8], []⟩, ⟨[], [0, 5, 6, 7, 57], []⟩, ⟨[], [0, 5, 6, 7, 10], []⟩, ⟨[], [0, 5, 6, 7, 73], []⟩, ⟨[], [0, 5, 6, 7], []⟩, ⟨[], [0, 5, 6, 7], []⟩, ⟨[], [2, 3, 4], []⟩, ⟨[], [2, 3, 4], []⟩]
theorem b_frame_Scan : Body Try.prog 46 [] h_frame_Scan c_frame_Scan 86 [.tmp 2, .tmp 3, .tmp 4] := body_of Try.func46 (by kernel_rfl) (by kernel_rfl) (by kernel_rfl) (by kernel_rfl)
def c_ref03_Same : C := (.seq (.seq (.reg ([⟨some 4, .assign (.const (.bool false)), none⟩])) (.keep [0, 1])) (.seq (.seq (.seq (.reg ([⟨some 6, .move (.tmp 0), none⟩, ⟨some 7, .call { callee := .builtin .len, args := #[(.tmp 6)], argTypes := #[96] }, none⟩, ⟨some 8, .move (.tmp 1), none⟩, ⟨some 9, .call { callee := .builtin .len, args := #[(.tmp 8)], argTypes := #[96] }, none⟩, ⟨some 10, .binOp .neq 3 (.tmp 7) (.tmp 9) 3, none⟩])) (.keep [0, 1, 10])) (.cond (.tmp 10) (.seq (.seq (.reg ([⟨some 4, .assign (.const (.bool false)), none⟩])) (.keep [4])) .ret) .skip)) (.seq (.seq (.seq (.reg ([⟨some 5, .assign (.const (.int .i64 0)), none⟩])) (.keep [0, 1, 5])) (.block 0 (.loop [] [0, 1, 5] (.seq (.seq (.seq (.reg ([⟨some 11, .move (.tmp 5), none⟩, ⟨some 12, .move (.tmp 0), none⟩, ⟨some 13, .call { callee := .builtin .len, args := #[(.tmp 12)], argTypes := #[96] }, none⟩, ⟨some 14, .binOp .lss 3 (.tmp 11) (.tmp 13) 3, none⟩])) (.keep [0, 1, 5, 14])) (.cond (.tmp 14) .skip (.exit 0))) (.seq (.block 1 (.seq (.seq (.draw ([⟨⟨some 17, .move (.tmp 0), none⟩, []⟩, ⟨⟨some 18, .move (.tmp 5), none⟩, [0]⟩, ⟨⟨some 19, .indexAddr 96 (.tmp 17) (.tmp 18), none⟩, []⟩, ⟨⟨some 20, .fieldAddr 47 (.tmp 19) 0, none⟩, []⟩, ⟨⟨some 21, .load 3 (.tmp 20), none⟩, []⟩, ⟨⟨some 22, .move (.tmp 1), none⟩, [0, 1, 2, 3, 4]⟩, ⟨⟨some 23, .move (.tmp 5), none⟩, [0, 1, 2, 3, 4, 5]⟩, ⟨⟨some 24, .indexAddr 96 (.tmp 22) (.tmp 23), none⟩, [0, 1, 2, 3, 4]⟩, ⟨⟨some 25, .fieldAddr 47 (.tmp 24) 0, none⟩, [0, 1, 2, 3, 4]⟩, ⟨⟨some 26, .load 3 (.tmp 25), none⟩, [0, 1, 2, 3, 4]⟩, ⟨⟨some 27, .binOp .neq 3 (.tmp 21) (.tmp 26) 3, none⟩, []⟩, ⟨⟨some 28, .move (.tmp 27), none⟩, []⟩, ⟨⟨some 29, .move (.tmp 0), some (28, false)⟩, []⟩, ⟨⟨some 30, .move (.tmp 5), some (28, false)⟩, [12]⟩, ⟨⟨some 31, .indexAddr 96 (.tmp 29) (.tmp 30), some (28, false)⟩, []⟩, ⟨⟨some 32, .fieldAddr 47 (.tmp 31) 1, some (28, false)⟩, []⟩, ⟨⟨some 33, .load 24 (.tmp 32), some (28, false)⟩, []⟩, ⟨⟨some 34, .move (.tmp 1), some (28, false)⟩, [12, 13, 14, 15, 16]⟩, ⟨⟨some 35, .move (.tmp 5), some (28, false)⟩, [12, 13, 14, 15, 16, 17]⟩, ⟨⟨some 36, .indexAddr 96 (.tmp 34) (.tmp 35), some (28, false)⟩, [12, 13, 14, 15, 16]⟩, ⟨⟨some 37, .fieldAddr 47 (.tmp 36) 1, some (28, false)⟩, [12, 13, 14, 15, 16]⟩, ⟨⟨some 38, .load 24 (.tmp 37), some (28, false)⟩, [12, 13, 14, 15, 16]⟩, ⟨⟨some 39, .call { callee := .value (.func 42), args := #[(.tmp 33), (.tmp 38)], argTypes := #[24, 24] }, some (28, false)⟩, []⟩, ⟨⟨some 40, .unOp .not 4 (.tmp 39), some (28, false)⟩, []⟩, ⟨⟨some 41, .pick (.tmp 28) (.const (.bool true)) (.tmp 40), none⟩, []⟩])) (.keep [0, 1, 5, 41])) (.cond (.tmp 41) (.seq (.seq (.reg ([⟨some 4, .assign (.const (.bool false)), none⟩])) (.keep [4])) .ret) .skip))) (.seq (.reg ([⟨some 15, .move (.tmp 5), none⟩, ⟨some 16, .binOp .add 3 (.tmp 15) (.const (.int .i64 1)) 3, none⟩, ⟨some 5, .assign (.tmp 16), none⟩])) (.keep [0, 1, 5]))))))) (.seq (.seq (.reg ([⟨some 4, .assign (.const (.bool true)), none⟩])) (.keep [4])) .ret))))
attribute [go_sem ↓] c_ref03_Same
def h_ref03_Same : List Hint := [⟨[], [0, 1], []⟩, ⟨[], [0, 1, 10], []⟩, ⟨[], [4], []⟩, ⟨[], [0, 1, 5], []⟩, ⟨[], [0, 1, 5], []⟩, ⟨[], [0, 1, 5, 14], []⟩, ⟨[], [0, 1, 5, 41], []⟩, ⟨[], [4], []⟩, ⟨[], [0, 1, 5], []⟩, ⟨[], [4], []⟩]
theorem b_ref03_Same : Body Try.prog 49 [] h_ref03_Same c_ref03_Same 42 [.tmp 4] := body_of Try.func49 (by kernel_rfl) (by kernel_rfl) (by kernel_rfl) (by kernel_rfl)
def c_frame_put : C := (.seq (.seq (.reg ([⟨some 4, .assign (.const (.slice none 0 0)), none⟩])) (.keep [0, 1])) (.seq (.seq (.reg ([⟨some 5, .move (.tmp 0), none⟩, ⟨some 6, .move (.tmp 1), none⟩, ⟨some 7, .convert 82 5 (.tmp 6), none⟩, ⟨some 8, .move (.tmp 1), none⟩, ⟨some 9, .binOp .shr 82 (.tmp 8) (.const (.int .u64 8)) 85, none⟩, ⟨some 10, .convert 82 5 (.tmp 9), none⟩, ⟨some 11, .move (.tmp 1), none⟩, ⟨some 12, .binOp .shr 82 (.tmp 11) (.const (.int .u64 16)) 85, none⟩, ⟨some 13, .convert 82 5 (.tmp 12), none⟩, ⟨some 14, .move (.tmp 1), none⟩, ⟨some 15, .binOp .shr 82 (.tmp 14) (.const (.int .u64 24)) 85, none⟩, ⟨some 16, .convert 82 5 (.tmp 15), none⟩, ⟨some 17, .buildSlice 24 4 #[(0, (.tmp 7)), (1, (.tmp 10)), (2, (.tmp 13)), (3, (.tmp 16))], none⟩, ⟨some 18, .call { callee := .builtin .append, args := #[(.tmp 5), (.tmp 17)], argTypes := #[24, 24] }, none⟩, ⟨some 4, .assign (.tmp 18), none⟩])) (.keep [4])) .ret))
attribute [go_sem ↓] c_frame_put
def h_frame_put : List Hint := [⟨[], [0, 1], []⟩, ⟨[], [4], []⟩]
theorem b_frame_put : Body Try.prog 71 [] h_frame_put c_frame_put 19 [.tmp 4] := body_of Try.func71 (by kernel_rfl) (by kernel_rfl) (by kernel_rfl) (by kernel_rfl)
def c_frame_sum : C := (.seq (.seq (.reg ([⟨some 4, .assign (.const (.int .u32 0)), none⟩])) (.keep [0, 1])) (.seq (.seq (.reg ([⟨some 8, .move (.tmp 0), none⟩, ⟨some 9, .call { callee := .value (.func 36), args := #[(.tmp 8)], argTypes := #[24] }, none⟩, ⟨some 7, .move (.tmp 9), none⟩, ⟨some 10, .extract (.tmp 7) 0, none⟩, ⟨some 11, .extract (.tmp 7) 1, none⟩, ⟨some 5, .assign (.tmp 10), none⟩, ⟨some 6, .assign (.tmp 11), none⟩])) (.keep [1, 5])) (.seq (.seq (.reg ([⟨some 13, .move (.tmp 5), none⟩, ⟨some 14, .move (.tmp 1), none⟩, ⟨some 15, .call { callee := .value (.func 74), args := #[(.tmp 13), (.tmp 14)], argTypes := #[82, 24] }, none⟩, ⟨some 12, .move (.tmp 15), none⟩, ⟨some 16, .extract (.tmp 12) 0, none⟩, ⟨some 17, .extract (.tmp 12) 1, none⟩, ⟨some 5, .assign (.tmp 16), none⟩])) (.keep [5])) (.seq (.seq (.reg ([⟨some 18, .move (.tmp 5), none⟩, ⟨some 4, .assign (.tmp 18), none⟩])) (.keep [4])) .ret))))
attribute [go_sem ↓] c_frame_sum
def h_frame_sum : List Hint := [⟨[], [0, 1], []⟩, ⟨[], [1, 5], []⟩, ⟨[], [5], []⟩, ⟨[], [4], []⟩]
theorem b_frame_sum : Body Try.prog 73 [] h_frame_sum c_frame_sum 19 [.tmp 4] := body_of Try.func73 (by kernel_rfl) (by kernel_rfl) (by kernel_rfl) (by kernel_rfl)
def c_frame_get : C := (.seq (.seq (.reg ([⟨some 2, .assign (.const (.int .u32 0)), none⟩])) (.keep [0])) (.seq (.seq (.reg ([⟨some 3, .assign (.const (.int .u32 0)), none⟩])) (.keep [0, 3])) (.seq (.seq (.seq (.reg ([⟨some 6, .move (.tmp 0), none⟩, ⟨some 7, .slice 24 (.tmp 6) none (some (.const (.int .i64 4))) none, none⟩, ⟨some 8, .call { callee := .builtin .len, args := #[(.tmp 7)], argTypes := #[24] }, none⟩, ⟨some 9, .move (.const (.int .i64 0)), none⟩])) (.keep [3, 7, 8, 9])) (.block 0 (.loop [] [3, 7, 8, 9] (.seq (.seq (.reg ([⟨some 10, .binOp .lss 3 (.tmp 9) (.tmp 8) 3, none⟩])) (.keep [3, 7, 8, 9, 10])) (.seq (.cond (.tmp 10) .skip (.exit 0)) (.seq (.block 1 (.seq (.seq (.reg ([⟨some 11, .move (.tmp 9), none⟩, ⟨some 12, .indexAddr 24 (.tmp 7) (.tmp 9), none⟩, ⟨some 13, .load 5 (.tmp 12), none⟩, ⟨some 4, .assign (.tmp 11), none⟩, ⟨some 5, .assign (.tmp 13), none⟩])) (.keep [3, 4, 5, 7, 8, 9])) (.seq (.reg ([⟨some 14, .move (.tmp 3), none⟩, ⟨some 15, .move (.tmp 5), none⟩, ⟨some 16, .convert 5 82 (.tmp 15), none⟩, ⟨some 17, .move (.tmp 4), none⟩, ⟨some 18, .binOp .mul 3 (.const (.int .i64 8)) (.tmp 17) 3, none⟩, ⟨some 19, .binOp .shl 82 (.tmp 16) (.tmp 18) 3, none⟩, ⟨some 20, .binOp .or 82 (.tmp 14) (.tmp 19) 82, none⟩, ⟨some 3, .assign (.tmp 20), none⟩])) (.keep [3, 7, 8, 9])))) (.seq (.reg ([⟨some 21, .binOp .add 3 (.tmp 9) (.const (.int .i64 1)) 3, none⟩, ⟨some 9, .move (.tmp 21), none⟩])) (.keep [3, 7, 8, 9])))))))) (.seq (.seq (.reg ([⟨some 22, .move (.tmp 3), none⟩, ⟨some 2, .assign (.tmp 22), none⟩])) (.keep [2])) .ret))))
attribute [go_sem ↓] c_frame_get
def h_frame_get : List Hint := [⟨[], [0], []⟩, ⟨[], [0, 3], []⟩, ⟨[], [3, 7, 8, 9], []⟩, ⟨[], [3, 7, 8, 9], []⟩, ⟨[], [3, 7, 8, 9, 10], []⟩, ⟨[], [3, 4, 5, 7, 8, 9], []⟩, ⟨[], [3, 7, 8, 9], []⟩, ⟨[], [3, 7, 8, 9], []⟩, ⟨[], [2], []⟩]
theorem b_frame_get : Body Try.prog 76 [] h_frame_get c_frame_get 23 [.tmp 2] := body_of Try.func76 (by kernel_rfl) (by kernel_rfl) (by kernel_rfl) (by kernel_rfl)
def c_frame_Size : C := (.seq (.seq (.reg ([⟨some 1, .box 47 (.tmp 0), none⟩, ⟨some 2, .assign (.const (.int .i64 0)), none⟩, ⟨some 3, .assign (.const (.int .i64 0)), none⟩])) (.keep [1])) (.seq (.seq (.seq (.reg ([⟨some 4, .load 47 (.tmp 1), none⟩, ⟨some 5, .call { callee := .value (.func 34), args := #[(.tmp 4)], argTypes := #[47] }, none⟩, ⟨some 6, .unOp .not 4 (.tmp 5), none⟩])) (.keep [1, 6])) (.cond (.tmp 6) (.seq (.seq (.reg ([⟨some 2, .assign (.const (.int .i64 0)), none⟩, ⟨some 3, .assign (.const (.int .i64 8)), none⟩])) (.keep [2, 3])) .ret) .skip)) (.seq (.seq (.reg ([⟨some 7, .fieldAddr 47 (.tmp 1) 1, none⟩, ⟨some 8, .load 24 (.tmp 7), none⟩, ⟨some 9, .call { callee := .builtin .len, args := #[(.tmp 8)], argTypes := #[24] }, none⟩, ⟨some 10, .binOp .add 3 (.const (.int .i64 12)) (.tmp 9) 3, none⟩, ⟨some 2, .assign (.tmp 10), none⟩, ⟨some 3, .assign (.const (.int .i64 0)), none⟩])) (.keep [2, 3])) .ret)))
attribute [go_sem ↓] c_frame_Size
def h_frame_Size : List Hint := [⟨[], [1], []⟩, ⟨[], [1, 6], []⟩, ⟨[], [2, 3], []⟩, ⟨[], [2, 3], []⟩]
theorem b_frame_Size : Body Try.prog 85 [] h_frame_Size c_frame_Size 11 [.tmp 2, .tmp 3] := body_of Try.func85 (by kernel_rfl) (by kernel_rfl) (by kernel_rfl) (by kernel_rfl)
end Go.Proofs.Ytlfpafdkegnkoaa.Pm
set_option linter.all false
set_option maxRecDepth 100000
namespace Go.Proofs.Ytlfpafdkegnkoaa.Pm
open Go Go.RowKit
def getV (b0 b1 b2 b3 : BitVec 8) : Nat → BitVec 32
  | 0 => 0#32
  | 1 => 0#32 ||| b0.setWidth 32 <<< 0
  | 2 => 0#32 ||| b0.setWidth 32 <<< 0 ||| b1.setWidth 32 <<< 8
  | 3 => 0#32 ||| b0.setWidth 32 <<< 0 ||| b1.setWidth 32 <<< 8 ||| b2.setWidth 32 <<< 16
  | _ => 0#32 ||| b0.setWidth 32 <<< 0 ||| b1.setWidth 32 <<< 8 ||| b2.setWidth 32 <<< 16 ||| b3.setWidth 32 <<< 24
theorem s_frame_get (b0 b1 b2 b3 : BitVec 8) (bs : List (BitVec 8)) (hl : bs.length ≤ 1000000) : Spec Try.prog 76 [.sl (bT (b0 :: b1 :: b2 :: b3 :: bs))] [] (.t (.i .u32 (getV b0 b1 b2 b3 4).toNat) true) := by
  refine spec_k (hold mixed) b_frame_get [(.i .u32 (getV b0 b1 b2 b3 4).toNat, true)] ?_
  have h1 : (4 : Int) ≤ ((bs.length + 1 + 1 + 1 + 1 : Nat) : Int) := by omega
  simp -implicitDefEqProofs only [go_sem, reduceIte, Nat.reduceAdd, Nat.reduceSub, Nat.reduceMul, Nat.reduceLT, Nat.reduceLeDiff, Nat.reduceEqDiff, Nat.reduceBEq, Int.reduceLE, Int.reduceLT, Int.reduceToNat, Int.reduceMul, Int.reduceAdd, Int.reduceSub, Int.reduceNeg, Int.reduceEq, reduceCtorEq, Nat.reduceMod, bT_cons, h1, Int.natCast_zero]
  refine ⟨.inl trivial, ?_⟩
  refine loop_l (α := Nat) (fun k => ⟨tmL [(3, .t (.i .u32 (getV b0 b1 b2 b3 k).toNat) true), (7, .t (.sl (bT [b0, b1, b2, b3])) false), (8, .t (.i .i64 4) true), (9, .t (.i .i64 k) true)], []⟩) (fun k => 4 - k) (fun k => k ≤ 4) 0 (by simp -implicitDefEqProofs only [go_sem, reduceIte, Nat.reduceAdd, Nat.reduceSub, Nat.reduceMul, Nat.reduceLT, Nat.reduceLeDiff, Nat.reduceEqDiff, Nat.reduceBEq, Int.reduceLE, Int.reduceLT, Int.reduceToNat, Int.reduceMul, Int.reduceAdd, Int.reduceSub, Int.reduceNeg, Int.reduceEq, reduceCtorEq, Nat.reduceMod] <;> rfl) (by omega) ?_
  intro k hk R hR
  have w0 : IntKind.i64.wrap 0 = 0 := by decide
  have w1 : IntKind.i64.wrap 1 = 1 := by decide
  have w2 : IntKind.i64.wrap 2 = 2 := by decide
  have w3 : IntKind.i64.wrap 3 = 3 := by decide
  have w4 : IntKind.i64.wrap 4 = 4 := by decide
  have w8 : IntKind.i64.wrap 8 = 8 := by decide
  have w16 : IntKind.i64.wrap 16 = 16 := by decide
  have w24 : IntKind.i64.wrap 24 = 24 := by decide
  have m0 : min 0 32 = 0 := by decide
  have m8 : min 8 32 = 8 := by decide
  have m16 : min 16 32 = 16 := by decide
  have m24 : min 24 32 = 24 := by decide
  obtain rfl | rfl | rfl | rfl | rfl : k = 0 ∨ k = 1 ∨ k = 2 ∨ k = 3 ∨ k = 4 := by omega
  all_goals simp -implicitDefEqProofs only [go_sem, reduceIte, Nat.reduceAdd, Nat.reduceSub, Nat.reduceMul, Nat.reduceLT, Nat.reduceLeDiff, Nat.reduceEqDiff, Nat.reduceBEq, Int.reduceLE, Int.reduceLT, Int.reduceToNat, Int.reduceMul, Int.reduceAdd, Int.reduceSub, Int.reduceNeg, Int.reduceEq, reduceCtorEq, Nat.reduceMod, getV, bT_cons, Int.cast_ofNat_Int, Int.natCast_zero, Int.natCast_one, w0, w1, w2, w3, w4, w8, w16, w24, m0, m8, m16, m24, AV.one, T.one]
  · refine hR 1 _ ?_ (by omega) (by omega)
    simp -implicitDefEqProofs only [go_sem, reduceIte, Nat.reduceAdd, Nat.reduceSub, Nat.reduceMul, Nat.reduceLT, Nat.reduceLeDiff, Nat.reduceEqDiff, Nat.reduceBEq, Int.reduceLE, Int.reduceLT, Int.reduceToNat, Int.reduceMul, Int.reduceAdd, Int.reduceSub, Int.reduceNeg, Int.reduceEq, reduceCtorEq, Nat.reduceMod]
    rfl
  · refine hR 2 _ ?_ (by omega) (by omega)
    simp -implicitDefEqProofs only [go_sem, reduceIte, Nat.reduceAdd, Nat.reduceSub, Nat.reduceMul, Nat.reduceLT, Nat.reduceLeDiff, Nat.reduceEqDiff, Nat.reduceBEq, Int.reduceLE, Int.reduceLT, Int.reduceToNat, Int.reduceMul, Int.reduceAdd, Int.reduceSub, Int.reduceNeg, Int.reduceEq, reduceCtorEq, Nat.reduceMod]
    rfl
  · refine hR 3 _ ?_ (by omega) (by omega)
    simp -implicitDefEqProofs only [go_sem, reduceIte, Nat.reduceAdd, Nat.reduceSub, Nat.reduceMul, Nat.reduceLT, Nat.reduceLeDiff, Nat.reduceEqDiff, Nat.reduceBEq, Int.reduceLE, Int.reduceLT, Int.reduceToNat, Int.reduceMul, Int.reduceAdd, Int.reduceSub, Int.reduceNeg, Int.reduceEq, reduceCtorEq, Nat.reduceMod]
    rfl
  · refine hR 4 _ ?_ (by omega) (by omega)
    simp -implicitDefEqProofs only [go_sem, reduceIte, Nat.reduceAdd, Nat.reduceSub, Nat.reduceMul, Nat.reduceLT, Nat.reduceLeDiff, Nat.reduceEqDiff, Nat.reduceBEq, Int.reduceLE, Int.reduceLT, Int.reduceToNat, Int.reduceMul, Int.reduceAdd, Int.reduceSub, Int.reduceNeg, Int.reduceEq, reduceCtorEq, Nat.reduceMod]
    rfl
end Go.Proofs.Ytlfpafdkegnkoaa.Pm
set_option linter.all false
set_option maxRecDepth 100000
namespace Go.Proofs.Ytlfpafdkegnkoaa.Pm
open Go Go.RowKit
structure Rec where
  num : Int
  data : List (BitVec 8)
  deriving DecidableEq
def Rec.cells (r : Rec) : List T := [.i .i64 r.num, .sl (bT r.data)]
def Rec.ok (r : Rec) : Bool := decide (0 ≤ r.num) && (decide (r.num ≤ 1000000000) && decide (r.data.length ≤ 1000))
theorem s_frame_valid (r : Rec) : Spec Try.prog 34 [.agg r.cells] [] (.t (.b r.ok) true) := by
  refine spec_k (hold mixed) b_frame_valid [(.b r.ok, true)] ?_
  have e3 : ((r.data.length : Int) ≤ 1000) = (r.data.length ≤ 1000) := propext (by omega)
  by_cases h0 : 0 ≤ r.num <;> by_cases h1 : r.num ≤ 1000000000 <;> simp -implicitDefEqProofs only [go_sem, reduceIte, Nat.reduceAdd, Nat.reduceSub, Nat.reduceMul, Nat.reduceLT, Nat.reduceLeDiff, Nat.reduceEqDiff, Nat.reduceBEq, Int.reduceLE, Int.reduceLT, Int.reduceToNat, Int.reduceMul, Int.reduceAdd, Int.reduceSub, Int.reduceNeg, Int.reduceEq, reduceCtorEq, Nat.reduceMod, Rec.cells, Rec.ok, h0, h1, e3, ge_iff_le]
def fourL (n : BitVec 32) : List (BitVec 8) := [n.setWidth 8, (n >>> 8).setWidth 8, (n >>> 16).setWidth 8, (n >>> 24).setWidth 8]
end Go.Proofs.Ytlfpafdkegnkoaa.Pm
set_option linter.all false
set_option maxRecDepth 100000
namespace Go.Proofs.Ytlfpafdkegnkoaa.Pm
open Go Go.RowKit
def numL (b0 b1 b2 b3 : BitVec 8) : Nat := b0.toNat + 256 * b1.toNat + 65536 * b2.toNat + 16777216 * b3.toNat
def recsT (l : List Rec) : List (List T) := l.map Rec.cells
theorem recsT_length (l : List Rec) : (recsT l).length = l.length := by simp [recsT]
theorem recsT_get {l : List Rec} {k : Nat} (h : k < l.length) : (recsT l)[k]? = some l[k].cells := by simp [recsT, h]
theorem s_ref03_Same (l m : List Rec) (hn : l.length ≤ 1000000) (hd : ∀ r ∈ l, r.data.length ≤ 1000000) (hd' : ∀ r ∈ m, r.data.length ≤ 1000000) : Spec Try.prog 49 [.sl (recsT l), .sl (recsT m)] [] (.t (.b (decide (l = m))) true) := by
  refine spec_k (hold mixed) b_ref03_Same [(.b (decide (l = m)), true)] ?_
  simp -implicitDefEqProofs only [go_sem, seval, recsT_length]
  by_cases hl : l.length = m.length
  · simp -implicitDefEqProofs only [go_sem, seval, hl, bne_self_eq_false]
    refine loop_l (α := Nat) (fun k => ⟨tmL [(0, .t (.sl (recsT l)) false), (1, .t (.sl (recsT m)) false), (5, .t (.i .i64 k) true)], []⟩) (fun k => l.length - k) (fun k => k ≤ l.length ∧ l.take k = m.take k) 0 (by simp -implicitDefEqProofs only [go_sem, seval] <;> rfl) ⟨by omega, rfl⟩ ?_
    rintro k ⟨hk, he⟩ R hR
    simp -implicitDefEqProofs only [go_sem, seval, recsT_length]
    refine wcond_mk (fun h => ?_) (fun h => ?_)
    · have hk' : k < l.length := by have := of_decide_eq_true h; omega
      have hk2 : k < m.length := by omega
      have hlt : (((k : Nat) : Int) < ((m.length : Nat) : Int)) = True := eq_true (by omega)
      have hlt2 : (((k : Nat) : Int) < ((l.length : Nat) : Int)) = True := eq_true (by omega)
      by_cases h1 : l[k].num = m[k].num
      · simp -implicitDefEqProofs only [go_sem, seval, recsT_get hk', recsT_get hk2, hlt, hlt2, recsT_length, Rec.cells, h1, bne_self_eq_false]
        refine call_d (s_ref01_SameBytes l[k].data m[k].data (hd _ (List.getElem_mem hk')) (hd' _ (List.getElem_mem hk2))) ?_
        by_cases h4 : l[k].data = m[k].data
        · have h5 : (l[k].data == m[k].data) = true := by rw [beq_iff_eq]; exact h4
          simp -implicitDefEqProofs only [go_sem, seval, h5]
          refine hR (k + 1) _ ?_ ⟨by omega, ?_⟩ (by omega)
          · simp -implicitDefEqProofs only [go_sem, seval, wrap_i64_id (show -9223372036854775808 ≤ (k : Int) + 1 by omega) (by omega), Int.natCast_add]
            try rfl
          · have e : l[k] = m[k] := by
              cases hx : l[k]; cases hy : m[k]
              rw [hx, hy] at h1 h4
              simp only at h1 h4
              rw [h1, h4]
            rw [← List.take_append_getElem hk', ← List.take_append_getElem hk2, he, e]
        · have h5 : (l[k].data == m[k].data) = false := by rw [beq_eq_false_iff_ne]; exact h4
          have h3 : decide (l = m) = false := decide_eq_false fun e => h4 (by subst e; rfl)
          simp -implicitDefEqProofs only [go_sem, seval, h5, h3]
      · have h2 : (l[k].num != m[k].num) = true := by rw [bne_iff_ne]; exact h1
        have h3 : decide (l = m) = false := decide_eq_false fun e => h1 (by subst e; rfl)
        simp -implicitDefEqProofs only [go_sem, seval, recsT_get hk', recsT_get hk2, hlt, hlt2, recsT_length, Rec.cells, h2, h3]
    · have hk' : ¬ k < l.length := by have := of_decide_eq_false h; omega
      obtain rfl : k = l.length := by omega
      have h3 : decide (l = m) = true := decide_eq_true (by rw [List.take_length] at he; rw [he, hl, List.take_length])
      simp -implicitDefEqProofs only [go_sem, seval, h3]
  · have h1 : ((((l.length : Nat) : Int) != ((m.length : Nat) : Int))) = true := by rw [bne_iff_ne]; omega
    have h3 : decide (l = m) = false := decide_eq_false fun e => hl (by rw [e])
    simp -implicitDefEqProofs only [go_sem, seval, h1, h3]
end Go.Proofs.Ytlfpafdkegnkoaa.Pm
set_option linter.all false
set_option maxRecDepth 100000
namespace Go.Proofs.Ytlfpafdkegnkoaa.Pm
open Go Go.RowKit
def headL (r : Rec) : List (BitVec 8) := fourL (BitVec.ofNat 32 r.data.length) ++ fourL (BitVec.ofInt 32 r.num)
def bytesL (r : Rec) : List (BitVec 8) := headL r ++ fourL (updV 0#32 (headL r ++ r.data)) ++ r.data
theorem wrap_u32_nat (n : Nat) : IntKind.u32.wrap (n : Int) = (((BitVec.ofNat 32 n).toNat : Nat) : Int) := by
  rw [IntKind.wrap_u32', BitVec.toNat_ofNat]; omega
theorem wrap_u32_int {i : Int} (h0 : 0 ≤ i) (h1 : i < 4294967296) : IntKind.u32.wrap i = (((BitVec.ofInt 32 i).toNat : Nat) : Int) := by
  rw [← bv32_of h0 (by omega), IntKind.wrap_u32']; omega
theorem fourL_length (n : BitVec 32) : (fourL n).length = 4 := rfl
theorem headL_length (r : Rec) : (headL r).length = 8 := rfl
theorem head_eq (r : Rec) : bT (fourL (BitVec.ofNat 32 r.data.length)) ++ bT (fourL (BitVec.ofInt 32 r.num)) = bT (headL r) := (bT_append _ _).symm
theorem head_take (r : Rec) : List.take 8 (bT (headL r)) = bT (headL r) := rfl
end Go.Proofs.Ytlfpafdkegnkoaa.Pm
set_option linter.all false
set_option maxRecDepth 100000
namespace Go.Proofs.Ytlfpafdkegnkoaa.Pm
open Go Go.RowKit
theorem Rec.ok_iff (r : Rec) : r.ok = true ↔ 0 ≤ r.num ∧ r.num ≤ 1000000000 ∧ r.data.length ≤ 1000 := by simp [Rec.ok]
theorem bytesL_length (r : Rec) : (bytesL r).length = 12 + r.data.length := by simp [bytesL, headL_length, fourL_length]; omega
def sizeT (r : Rec) : List (T × Bool) := if r.ok = true then [(.i .i64 (12 + r.data.length : Nat), true), (.i .i64 0, true)] else [(.i .i64 0, true), (.i .i64 8, true)]
theorem s_frame_Size (r : Rec) (hd : r.data.length ≤ 1000000) : Spec Try.prog 85 [.agg r.cells] [] (resV ((sizeT r).map AV.ofT)) := by
  refine spec_k (hold mixed) b_frame_Size (sizeT r) ?_
  simp -implicitDefEqProofs only [go_sem, seval, Rec.cells]
  refine call_k (s_frame_valid r) ?_ (by simp -implicitDefEqProofs only [go_sem, seval, Rec.cells])
  by_cases h : r.ok = true
  · have hw : IntKind.i64.wrap (12 + (r.data.length : Int)) = ((12 + r.data.length : Nat) : Int) := by rw [wrap_i64_id (by omega) (by omega)]; omega
    simp -implicitDefEqProofs only [go_sem, seval, h, sizeT, hw]
  · have h : r.ok = false := by simpa using h
    simp -implicitDefEqProofs only [go_sem, seval, h, sizeT]
end Go.Proofs.Ytlfpafdkegnkoaa.Pm
set_option linter.all false
set_option maxRecDepth 100000
namespace Go.Proofs.Ytlfpafdkegnkoaa.Pm
open Go Go.RowKit
theorem s_bytes_Clone_nl : Spec Try.prog 77 [.nl] [] (.t (.sl []) true) := by
  refine spec_k (hold mixed) b_bytes_Clone [(.sl [], true)] ?_
  simp -implicitDefEqProofs only [go_sem, reduceIte, Nat.reduceAdd, Nat.reduceSub, Nat.reduceMul, Nat.reduceLT, Nat.reduceLeDiff, Nat.reduceEqDiff, Nat.reduceBEq, Int.reduceLE, Int.reduceLT, Int.reduceToNat, Int.reduceMul, Int.reduceAdd, Int.reduceSub, Int.reduceNeg, Int.reduceEq, reduceCtorEq, Nat.reduceMod]
theorem s_bytes_Clone_ne : Spec Try.prog 77 [.ne] [] (.t (.sl []) true) := by
  refine spec_k (hold mixed) b_bytes_Clone [(.sl [], true)] ?_
  simp -implicitDefEqProofs only [go_sem, reduceIte, Nat.reduceAdd, Nat.reduceSub, Nat.reduceMul, Nat.reduceLT, Nat.reduceLeDiff, Nat.reduceEqDiff, Nat.reduceBEq, Int.reduceLE, Int.reduceLT, Int.reduceToNat, Int.reduceMul, Int.reduceAdd, Int.reduceSub, Int.reduceNeg, Int.reduceEq, reduceCtorEq, Nat.reduceMod]
  exact okEs_bT []
theorem s_bytes_Clone (bs : List (BitVec 8)) (hl : bs.length ≤ 1000000) : Spec Try.prog 77 [.sl (bT bs)] [] (.t (.sl (bT bs)) true) := by
  cases bs with
  | nil => exact spec_sl0 s_bytes_Clone_nl s_bytes_Clone_ne
  | cons b bs =>
    refine spec_k (hold mixed) b_bytes_Clone [(.sl (bT (b :: bs)), true)] ?_
    simp -implicitDefEqProofs only [go_sem, reduceIte, Nat.reduceAdd, Nat.reduceSub, Nat.reduceMul, Nat.reduceLT, Nat.reduceLeDiff, Nat.reduceEqDiff, Nat.reduceBEq, Int.reduceLE, Int.reduceLT, Int.reduceToNat, Int.reduceMul, Int.reduceAdd, Int.reduceSub, Int.reduceNeg, Int.reduceEq, reduceCtorEq, Nat.reduceMod, bT_cons]
    exact ⟨⟨okEs_bT (b :: bs), by unfold room; simp at hl; omega⟩, by rw [bT_take_self]⟩
theorem s_frame_sum (h d : List (BitVec 8)) (hh : h.length ≤ 20000) (hd : d.length ≤ 20000) : Spec Try.prog 73 [.sl (bT h), .sl (bT d)] [] (.t (.i .u32 (updV 0#32 (h ++ d)).toNat) true) := by
  refine spec_k (hold mixed) b_frame_sum [(.i .u32 (updV 0#32 (h ++ d)).toNat, true)] ?_
  simp -implicitDefEqProofs only [go_sem, reduceIte, Nat.reduceAdd, Nat.reduceSub, Nat.reduceMul, Nat.reduceLT, Nat.reduceLeDiff, Nat.reduceEqDiff, Nat.reduceBEq, Int.reduceLE, Int.reduceLT, Int.reduceToNat, Int.reduceMul, Int.reduceAdd, Int.reduceSub, Int.reduceNeg, Int.reduceEq, reduceCtorEq, Nat.reduceMod]
  refine call_k (s_crc_Sum' h hh) ?_
  simp -implicitDefEqProofs only [go_sem, reduceIte, Nat.reduceAdd, Nat.reduceSub, Nat.reduceMul, Nat.reduceLT, Nat.reduceLeDiff, Nat.reduceEqDiff, Nat.reduceBEq, Int.reduceLE, Int.reduceLT, Int.reduceToNat, Int.reduceMul, Int.reduceAdd, Int.reduceSub, Int.reduceNeg, Int.reduceEq, reduceCtorEq, Nat.reduceMod]
  refine call_k (s_crc_Update' (updV 0#32 h) d hd) ?_
  simp -implicitDefEqProofs only [go_sem, reduceIte, Nat.reduceAdd, Nat.reduceSub, Nat.reduceMul, Nat.reduceLT, Nat.reduceLeDiff, Nat.reduceEqDiff, Nat.reduceBEq, Int.reduceLE, Int.reduceLT, Int.reduceToNat, Int.reduceMul, Int.reduceAdd, Int.reduceSub, Int.reduceNeg, Int.reduceEq, reduceCtorEq, Nat.reduceMod, upd_upd]
theorem flat_bT (bs : List (BitVec 8)) : ∀ e ∈ bT bs, ∃ k n, e = [T.i k n] := by
  intro e he
  simp only [bT, List.mem_map] at he
  obtain ⟨b, _, rfl⟩ := he
  exact ⟨_, _, rfl⟩
theorem s_frame_put (xs : List (BitVec 8)) (n : BitVec 32) (hx : xs.length ≤ 1000000) : SpecAp Try.prog 71 (bT xs) [.i .u32 n.toNat] (bT (fourL n)) := by
  refine spec_kap (hold mixed) b_frame_put (bT (fourL n)) (by rw [← bT_append]; exact flat_bT _) (by rw [bT_length]; show _ + 4 ≤ room; unfold room; omega) ?_
  simp -implicitDefEqProofs only [go_sem, reduceIte, Nat.reduceAdd, Nat.reduceSub, Nat.reduceMul, Nat.reduceLT, Nat.reduceLeDiff, Nat.reduceEqDiff, Nat.reduceBEq, Int.reduceLE, Int.reduceLT, Int.reduceToNat, Int.reduceMul, Int.reduceAdd, Int.reduceSub, Int.reduceNeg, Int.reduceEq, reduceCtorEq, Nat.reduceMod]
  refine ⟨⟨okEs_bT (fourL n), by unfold room; omega⟩, by rw [List.length_append, bT_length, bT_length]; rfl, ?_⟩
  rw [bT_take_self]
  rfl
theorem s_frame_write (xs : List (BitVec 8)) (r : Rec) (hx : xs.length ≤ 100000) (h0 : 0 ≤ r.num) (h1 : r.num ≤ 1000000000) (h2 : r.data.length ≤ 1000) : Spec Try.prog 35 [.sl (bT xs), .agg r.cells] [.row 0 1 (bT (xs ++ bytesL r)) true] (.row 0 0 0 (xs ++ bytesL r).length) := by
  refine spec_ko (hold mixed) b_frame_write [.row 0 1 (bT (xs ++ bytesL r)) true] [.row 0 0 0 (xs ++ bytesL r).length] ?_
  simp -implicitDefEqProofs only [go_sem, reduceIte, Nat.reduceAdd, Nat.reduceSub, Nat.reduceMul, Nat.reduceLT, Nat.reduceLeDiff, Nat.reduceEqDiff, Nat.reduceBEq, Int.reduceLE, Int.reduceLT, Int.reduceToNat, Int.reduceMul, Int.reduceAdd, Int.reduceSub, Int.reduceNeg, Int.reduceEq, reduceCtorEq, Nat.reduceMod, Rec.cells, wrap_u32_nat, wrap_u32_int h0 (by omega)]
  refine onto_d (bT (fourL (BitVec.ofNat 32 r.data.length))) (s_frame_put [] _ (by simp)) ?_
  simp -implicitDefEqProofs only [go_sem, reduceIte, Nat.reduceAdd, Nat.reduceSub, Nat.reduceMul, Nat.reduceLT, Nat.reduceLeDiff, Nat.reduceEqDiff, Nat.reduceBEq, Int.reduceLE, Int.reduceLT, Int.reduceToNat, Int.reduceMul, Int.reduceAdd, Int.reduceSub, Int.reduceNeg, Int.reduceEq, reduceCtorEq, Nat.reduceMod, wrap_u32_nat, wrap_u32_int h0 (by omega)]
  refine over_d (b := true) (bT (fourL (BitVec.ofInt 32 r.num))) (s_frame_put (fourL (BitVec.ofNat 32 r.data.length)) (BitVec.ofInt 32 r.num) (by rw [fourL_length]; omega)) (by simp -implicitDefEqProofs only [go_sem, reduceIte, Nat.reduceAdd, Nat.reduceSub, Nat.reduceMul, Nat.reduceLT, Nat.reduceLeDiff, Nat.reduceEqDiff, Nat.reduceBEq, Int.reduceLE, Int.reduceLT, Int.reduceToNat, Int.reduceMul, Int.reduceAdd, Int.reduceSub, Int.reduceNeg, Int.reduceEq, reduceCtorEq, Nat.reduceMod]) (by simp -implicitDefEqProofs only [go_sem, reduceIte, Nat.reduceAdd, Nat.reduceSub, Nat.reduceMul, Nat.reduceLT, Nat.reduceLeDiff, Nat.reduceEqDiff, Nat.reduceBEq, Int.reduceLE, Int.reduceLT, Int.reduceToNat, Int.reduceMul, Int.reduceAdd, Int.reduceSub, Int.reduceNeg, Int.reduceEq, reduceCtorEq, Nat.reduceMod]) ?_
  simp -implicitDefEqProofs only [go_sem, reduceIte, Nat.reduceAdd, Nat.reduceSub, Nat.reduceMul, Nat.reduceLT, Nat.reduceLeDiff, Nat.reduceEqDiff, Nat.reduceBEq, Int.reduceLE, Int.reduceLT, Int.reduceToNat, Int.reduceMul, Int.reduceAdd, Int.reduceSub, Int.reduceNeg, Int.reduceEq, reduceCtorEq, Nat.reduceMod, fourL_length, head_eq]
  refine call_d (s_frame_sum (headL r) r.data (by rw [headL_length]; omega) (by omega)) ?_ (by simp -implicitDefEqProofs only [go_sem, reduceIte, Nat.reduceAdd, Nat.reduceSub, Nat.reduceMul, Nat.reduceLT, Nat.reduceLeDiff, Nat.reduceEqDiff, Nat.reduceBEq, Int.reduceLE, Int.reduceLT, Int.reduceToNat, Int.reduceMul, Int.reduceAdd, Int.reduceSub, Int.reduceNeg, Int.reduceEq, reduceCtorEq, Nat.reduceMod, headL_length, head_take])
  simp -implicitDefEqProofs only [go_sem, reduceIte, Nat.reduceAdd, Nat.reduceSub, Nat.reduceMul, Nat.reduceLT, Nat.reduceLeDiff, Nat.reduceEqDiff, Nat.reduceBEq, Int.reduceLE, Int.reduceLT, Int.reduceToNat, Int.reduceMul, Int.reduceAdd, Int.reduceSub, Int.reduceNeg, Int.reduceEq, reduceCtorEq, Nat.reduceMod]
  refine over_d (b := true) (bT (fourL (updV 0#32 (headL r ++ r.data)))) (s_frame_put (headL r) _ (by rw [headL_length]; omega)) (by simp -implicitDefEqProofs only [go_sem, reduceIte, Nat.reduceAdd, Nat.reduceSub, Nat.reduceMul, Nat.reduceLT, Nat.reduceLeDiff, Nat.reduceEqDiff, Nat.reduceBEq, Int.reduceLE, Int.reduceLT, Int.reduceToNat, Int.reduceMul, Int.reduceAdd, Int.reduceSub, Int.reduceNeg, Int.reduceEq, reduceCtorEq, Nat.reduceMod]) (by simp -implicitDefEqProofs only [go_sem, reduceIte, Nat.reduceAdd, Nat.reduceSub, Nat.reduceMul, Nat.reduceLT, Nat.reduceLeDiff, Nat.reduceEqDiff, Nat.reduceBEq, Int.reduceLE, Int.reduceLT, Int.reduceToNat, Int.reduceMul, Int.reduceAdd, Int.reduceSub, Int.reduceNeg, Int.reduceEq, reduceCtorEq, Nat.reduceMod, headL_length]) ?_
  simp -implicitDefEqProofs only [go_sem, reduceIte, Nat.reduceAdd, Nat.reduceSub, Nat.reduceMul, Nat.reduceLT, Nat.reduceLeDiff, Nat.reduceEqDiff, Nat.reduceBEq, Int.reduceLE, Int.reduceLT, Int.reduceToNat, Int.reduceMul, Int.reduceAdd, Int.reduceSub, Int.reduceNeg, Int.reduceEq, reduceCtorEq, Nat.reduceMod, fourL_length, ← bT_append, List.length_append, headL_length]
  refine call_d (s_slices_Concat [xs, headL r ++ fourL (updV 0#32 (headL r ++ r.data)), r.data] (by simp) (by simp [catL, headL_length, fourL_length]; omega)) ?_ (by simp -implicitDefEqProofs only [go_sem, reduceIte, Nat.reduceAdd, Nat.reduceSub, Nat.reduceMul, Nat.reduceLT, Nat.reduceLeDiff, Nat.reduceEqDiff, Nat.reduceBEq, Int.reduceLE, Int.reduceLT, Int.reduceToNat, Int.reduceMul, Int.reduceAdd, Int.reduceSub, Int.reduceNeg, Int.reduceEq, reduceCtorEq, Nat.reduceMod, catE] <;> rfl)
  simp -implicitDefEqProofs only [go_sem, reduceIte, Nat.reduceAdd, Nat.reduceSub, Nat.reduceMul, Nat.reduceLT, Nat.reduceLeDiff, Nat.reduceEqDiff, Nat.reduceBEq, Int.reduceLE, Int.reduceLT, Int.reduceToNat, Int.reduceMul, Int.reduceAdd, Int.reduceSub, Int.reduceNeg, Int.reduceEq, reduceCtorEq, Nat.reduceMod]
  refine ends_mk [3] ?_ ?_
  · simp -implicitDefEqProofs only [go_sem, reduceIte, Nat.reduceAdd, Nat.reduceSub, Nat.reduceMul, Nat.reduceLT, Nat.reduceLeDiff, Nat.reduceEqDiff, Nat.reduceBEq, Int.reduceLE, Int.reduceLT, Int.reduceToNat, Int.reduceMul, Int.reduceAdd, Int.reduceSub, Int.reduceNeg, Int.reduceEq, reduceCtorEq, Nat.reduceMod]
    exact ⟨bT_take_self _, Nat.le_refl _⟩
  · simp -implicitDefEqProofs only [go_sem, reduceIte, Nat.reduceAdd, Nat.reduceSub, Nat.reduceMul, Nat.reduceLT, Nat.reduceLeDiff, Nat.reduceEqDiff, Nat.reduceBEq, Int.reduceLE, Int.reduceLT, Int.reduceToNat, Int.reduceMul, Int.reduceAdd, Int.reduceSub, Int.reduceNeg, Int.reduceEq, reduceCtorEq, Nat.reduceMod]
    simp [catL, bytesL]
theorem s_frame_Encode_ok (r : Rec) (h : r.ok = true) : Spec Try.prog 11 [.agg r.cells] [.row 0 1 (bT (bytesL r)) true] (.tup [.row 0 0 0 (bytesL r).length, .t (.i .i64 0) true]) := by
  refine spec_ko (hold mixed) b_frame_Encode [.row 0 1 (bT (bytesL r)) true] [.row 0 0 0 (bytesL r).length, .t (.i .i64 0) true] ?_
  obtain ⟨h0, h1, h2⟩ := r.ok_iff.1 h
  simp -implicitDefEqProofs only [go_sem, reduceIte, Nat.reduceAdd, Nat.reduceSub, Nat.reduceMul, Nat.reduceLT, Nat.reduceLeDiff, Nat.reduceEqDiff, Nat.reduceBEq, Int.reduceLE, Int.reduceLT, Int.reduceToNat, Int.reduceMul, Int.reduceAdd, Int.reduceSub, Int.reduceNeg, Int.reduceEq, reduceCtorEq, Nat.reduceMod, Rec.cells]
  refine call_k (s_frame_valid r) ?_ (by simp -implicitDefEqProofs only [go_sem, reduceIte, Nat.reduceAdd, Nat.reduceSub, Nat.reduceMul, Nat.reduceLT, Nat.reduceLeDiff, Nat.reduceEqDiff, Nat.reduceBEq, Int.reduceLE, Int.reduceLT, Int.reduceToNat, Int.reduceMul, Int.reduceAdd, Int.reduceSub, Int.reduceNeg, Int.reduceEq, reduceCtorEq, Nat.reduceMod, Rec.cells])
  simp -implicitDefEqProofs only [go_sem, reduceIte, Nat.reduceAdd, Nat.reduceSub, Nat.reduceMul, Nat.reduceLT, Nat.reduceLeDiff, Nat.reduceEqDiff, Nat.reduceBEq, Int.reduceLE, Int.reduceLT, Int.reduceToNat, Int.reduceMul, Int.reduceAdd, Int.reduceSub, Int.reduceNeg, Int.reduceEq, reduceCtorEq, Nat.reduceMod, h]
  refine call_k (s_frame_write [] r (by simp) h0 h1 h2) ?_ (by simp -implicitDefEqProofs only [go_sem, reduceIte, Nat.reduceAdd, Nat.reduceSub, Nat.reduceMul, Nat.reduceLT, Nat.reduceLeDiff, Nat.reduceEqDiff, Nat.reduceBEq, Int.reduceLE, Int.reduceLT, Int.reduceToNat, Int.reduceMul, Int.reduceAdd, Int.reduceSub, Int.reduceNeg, Int.reduceEq, reduceCtorEq, Nat.reduceMod, Rec.cells] <;> rfl)
  simp -implicitDefEqProofs only [go_sem, reduceIte, Nat.reduceAdd, Nat.reduceSub, Nat.reduceMul, Nat.reduceLT, Nat.reduceLeDiff, Nat.reduceEqDiff, Nat.reduceBEq, Int.reduceLE, Int.reduceLT, Int.reduceToNat, Int.reduceMul, Int.reduceAdd, Int.reduceSub, Int.reduceNeg, Int.reduceEq, reduceCtorEq, Nat.reduceMod]
  refine ends_mk [1] ?_ ?_
  · simp -implicitDefEqProofs only [go_sem, reduceIte, Nat.reduceAdd, Nat.reduceSub, Nat.reduceMul, Nat.reduceLT, Nat.reduceLeDiff, Nat.reduceEqDiff, Nat.reduceBEq, Int.reduceLE, Int.reduceLT, Int.reduceToNat, Int.reduceMul, Int.reduceAdd, Int.reduceSub, Int.reduceNeg, Int.reduceEq, reduceCtorEq, Nat.reduceMod]
    exact bT_take_self _
  · simp -implicitDefEqProofs only [go_sem, reduceIte, Nat.reduceAdd, Nat.reduceSub, Nat.reduceMul, Nat.reduceLT, Nat.reduceLeDiff, Nat.reduceEqDiff, Nat.reduceBEq, Int.reduceLE, Int.reduceLT, Int.reduceToNat, Int.reduceMul, Int.reduceAdd, Int.reduceSub, Int.reduceNeg, Int.reduceEq, reduceCtorEq, Nat.reduceMod]
end Go.Proofs.Ytlfpafdkegnkoaa.Pm
set_option linter.all false
set_option maxRecDepth 100000
namespace Go.Proofs.Ytlfpafdkegnkoaa.Pm
open Go Go.RowKit
def capV (cap : List T) : List AV := cap.map (AV.t · false)
theorem capV_all (h : H) (cap : List T) : argsOK h (capV cap) cap := by
  induction cap with
  | nil => simp [capV, argsOK]
  | cons x xs ih =>
    simp only [capV, List.map_cons] at ih ⊢
    rw [argsOK_cons]
    exact ⟨by simp [argOK, arg1], ih⟩
theorem capV_loose (cap : List T) : (capV cap).any AV.loose = false := by
  rw [List.any_eq_false]
  intro v hv
  simp only [capV, List.mem_map] at hv
  obtain ⟨x, _, rfl⟩ := hv
  simp [AV.loose]
theorem capV_allf (cap : List T) (f : AV → Bool) (hf : ∀ x, f (AV.t x false) = true) : (capV cap).all f = true := by
  simp only [capV, List.all_map, List.all_eq_true]
  intro x _
  exact hf x
def ixF {α : Type} (p : α → Bool) (l : List α) : Int := match l.findIdx? p with
  | some i => (i : Nat)
  | none => -1
theorem findIdx_at {α : Type} {p : α → Bool} {l : List α} {k : Nat} (hk : k < l.length) (h : (l.take k).any p = false) (hp : p l[k] = true) : l.findIdx? p = some k := by
  rw [List.findIdx?_eq_some_iff_getElem]
  refine ⟨hk, hp, fun j hj => ?_⟩
  rw [List.any_eq_false] at h
  exact h _ (List.mem_take_iff_getElem.2 ⟨j, by omega, rfl⟩)
theorem s_slices_IndexFunc (l : List Rec) (g : Nat) (cap : List T) (p : Rec → Bool) (hn : l.length ≤ 1000000) (hp : ∀ r ∈ l, Spec Try.prog g (.agg r.cells :: cap) [] (.t (.b (p r)) true)) : Spec Try.prog 84 [.sl (recsT l), .fn g cap] [] (.t (.i .i64 (ixF p l)) true) := by
  refine spec_k (hold mixed) b_slices_IndexFunc [(.i .i64 (ixF p l), true)] ?_
  have cf : List.map (fun x => AV.t x false) cap = capV cap := rfl
  simp -implicitDefEqProofs only [go_sem, seval, recsT_length, cf]
  refine loop_l (α := Nat) (fun k => ⟨tmL [(0, .t (.sl (recsT l)) false), (1, .fn g (capV cap)), (7, .t (.i .i64 l.length) true), (8, .t (.i .i64 k) true)], []⟩) (fun k => l.length - k) (fun k => k ≤ l.length ∧ (l.take k).any p = false) 0 (by simp -implicitDefEqProofs only [go_sem, seval, capV_allf] <;> rfl) ⟨by omega, rfl⟩ ?_
  rintro k ⟨hk, he⟩ R hR
  simp -implicitDefEqProofs only [go_sem, seval]
  refine wcond_mk (fun h => ?_) (fun h => ?_)
  · have hk' : k < l.length := by have := of_decide_eq_true h; omega
    simp -implicitDefEqProofs only [go_sem, seval, recsT_get hk', recsT_length, Rec.cells]
    refine call_k (hp l[k] (List.getElem_mem hk')) ?_ (by simp -implicitDefEqProofs only [go_sem, seval, Rec.cells]; exact capV_all _ _) (by simp -implicitDefEqProofs only [go_sem, seval, capV_loose])
    simp -implicitDefEqProofs only [go_sem, seval]
    refine wcond_mk (fun h => ?_) (fun h => ?_)
    · have hx : ixF p l = (k : Nat) := by unfold ixF; rw [findIdx_at hk' he h]
      simp -implicitDefEqProofs only [go_sem, seval, hx]
    · simp -implicitDefEqProofs only [go_sem, seval]
      refine hR (k + 1) _ ?_ ⟨by omega, ?_⟩ (by omega)
      · simp -implicitDefEqProofs only [go_sem, seval, wrap_i64_id (show -9223372036854775808 ≤ (k : Int) + 1 by omega) (by omega), Int.natCast_add, capV_allf]
        try rfl
      · rw [← List.take_append_getElem hk', List.any_append, he]
        simp [h]
  · have hk' : ¬ k < l.length := by have := of_decide_eq_false h; omega
    obtain rfl : k = l.length := by omega
    rw [List.take_length] at he
    have hx : ixF p l = -1 := by
      unfold ixF
      have : l.findIdx? p = none := by
        rw [List.findIdx?_eq_none_iff]
        intro x hx
        rw [List.any_eq_false] at he
        simpa using he x hx
      rw [this]
    simp -implicitDefEqProofs only [go_sem, seval, hx]
def catR (l : List Rec) : List (BitVec 8) := (l.map bytesL).flatten
theorem catR_step {l : List Rec} {k : Nat} (h : k < l.length) : catR (l.take (k + 1)) = catR (l.take k) ++ bytesL l[k] := by
  unfold catR
  rw [← List.take_append_getElem h, List.map_append, List.flatten_append]
  simp
theorem catR_le (l : List Rec) (k : Nat) : (catR (l.take k)).length ≤ (catR l).length := by
  unfold catR
  conv => rhs; rw [← List.take_append_drop k l]
  rw [List.map_append, List.flatten_append, List.length_append]
  omega
theorem catR_length_step {l : List Rec} {k : Nat} (h : k < l.length) : (catR (l.take (k + 1))).length = (catR (l.take k)).length + 12 + l[k].data.length := by
  rw [catR_step h, List.length_append, bytesL_length]; omega
end Go.Proofs.Ytlfpafdkegnkoaa.Pm
set_option linter.all false
namespace Go.Proofs.Ytlfpafdkegnkoaa.Pm
open Go Go.RowKit
theorem getV_num (b0 b1 b2 b3 : BitVec 8) : (getV b0 b1 b2 b3 4).toNat = numL b0 b1 b2 b3 := by
  have h0 := b0.isLt
  have h1 := b1.isLt
  have h2 := b2.isLt
  have h3 := b3.isLt
  have e0 : (0#32 ||| b0.setWidth 32 <<< 0).toNat = b0.toNat := by simp; omega
  have e1 : (b1.setWidth 32 <<< 8).toNat = b1.toNat <<< 8 := by
    rw [BitVec.toNat_shiftLeft, BitVec.toNat_setWidth, Nat.mod_eq_of_lt (by omega : b1.toNat < 2 ^ 32), Nat.mod_eq_of_lt]
    rw [Nat.shiftLeft_eq]; omega
  have e2 : (b2.setWidth 32 <<< 16).toNat = b2.toNat <<< 16 := by
    rw [BitVec.toNat_shiftLeft, BitVec.toNat_setWidth, Nat.mod_eq_of_lt (by omega : b2.toNat < 2 ^ 32), Nat.mod_eq_of_lt]
    rw [Nat.shiftLeft_eq]; omega
  have e3 : (b3.setWidth 32 <<< 24).toNat = b3.toNat <<< 24 := by
    rw [BitVec.toNat_shiftLeft, BitVec.toNat_setWidth, Nat.mod_eq_of_lt (by omega : b3.toNat < 2 ^ 32), Nat.mod_eq_of_lt]
    rw [Nat.shiftLeft_eq]; omega
  show (0#32 ||| b0.setWidth 32 <<< 0 ||| b1.setWidth 32 <<< 8 ||| b2.setWidth 32 <<< 16 ||| b3.setWidth 32 <<< 24).toNat = _
  rw [BitVec.toNat_or, BitVec.toNat_or, BitVec.toNat_or, e0, e1, e2, e3]
  rw [Nat.or_comm b0.toNat, ← Nat.shiftLeft_add_eq_or_of_lt (by omega : b0.toNat < 2 ^ 8)]
  rw [Nat.or_comm _ (b2.toNat <<< 16), ← Nat.shiftLeft_add_eq_or_of_lt (by rw [Nat.shiftLeft_eq]; omega)]
  rw [Nat.or_comm _ (b3.toNat <<< 24), ← Nat.shiftLeft_add_eq_or_of_lt (by rw [Nat.shiftLeft_eq, Nat.shiftLeft_eq]; omega)]
  simp only [Nat.shiftLeft_eq, numL]
  omega
theorem four_nat (n : BitVec 32) : fourL n = [BitVec.ofNat 8 n.toNat, BitVec.ofNat 8 (n.toNat / 256), BitVec.ofNat 8 (n.toNat / 65536), BitVec.ofNat 8 (n.toNat / 16777216)] := by
  unfold fourL
  simp only [List.cons.injEq, and_true]
  refine ⟨?_, ?_, ?_, ?_⟩ <;> apply BitVec.eq_of_toNat_eq <;> simp [Nat.shiftRight_eq_div_pow]
theorem byte_eq {a : BitVec 8} {n : Nat} (h : n % 256 = a.toNat) : BitVec.ofNat 8 n = a := by
  apply BitVec.eq_of_toNat_eq
  simpa using h
theorem four_num {n : BitVec 32} {b0 b1 b2 b3 : BitVec 8} (h : n.toNat = numL b0 b1 b2 b3) : fourL n = [b0, b1, b2, b3] := by
  have h0 := b0.isLt
  have h1 := b1.isLt
  have h2 := b2.isLt
  have h3 := b3.isLt
  unfold numL at h
  rw [four_nat]
  simp only [List.cons.injEq, and_true]
  refine ⟨byte_eq ?_, byte_eq ?_, byte_eq ?_, byte_eq ?_⟩ <;> omega
theorem num_four {n : BitVec 32} {b0 b1 b2 b3 : BitVec 8} (h : fourL n = [b0, b1, b2, b3]) : n.toNat = numL b0 b1 b2 b3 := by
  rw [four_nat] at h
  simp only [List.cons.injEq, and_true] at h
  obtain ⟨rfl, rfl, rfl, rfl⟩ := h
  have := n.isLt
  unfold numL
  simp only [BitVec.toNat_ofNat]
  omega
theorem four_getV (b0 b1 b2 b3 : BitVec 8) : fourL (getV b0 b1 b2 b3 4) = [b0, b1, b2, b3] := four_num (getV_num _ _ _ _)
theorem four_inj {m n : BitVec 32} (h : fourL m = fourL n) : m = n := by
  apply BitVec.eq_of_toNat_eq
  have h1 := num_four (n := m) rfl
  have h2 := num_four (n := n) (b0 := m.setWidth 8) (b1 := (m >>> 8).setWidth 8) (b2 := (m >>> 16).setWidth 8) (b3 := (m >>> 24).setWidth 8) (by rw [← h]; rfl)
  omega
def oneL : List (BitVec 8) → Option Rec
  | b0 :: b1 :: b2 :: b3 :: c0 :: c1 :: c2 :: c3 :: d0 :: d1 :: d2 :: d3 :: bs =>
    if numL b0 b1 b2 b3 ≤ 1000 ∧ numL b0 b1 b2 b3 ≤ bs.length ∧ numL c0 c1 c2 c3 ≤ 1000000000 ∧ getV d0 d1 d2 d3 4 = updV 0#32 ([b0, b1, b2, b3, c0, c1, c2, c3] ++ bs.take (numL b0 b1 b2 b3)) then some ⟨numL c0 c1 c2 c3, bs.take (numL b0 b1 b2 b3)⟩ else none
  | _ => none
theorem ofInt_nat (n : Nat) : BitVec.ofInt 32 (n : Int) = BitVec.ofNat 32 n := by simp
theorem head_of {b0 b1 b2 b3 c0 c1 c2 c3 : BitVec 8} {r : Rec} (h1 : r.data.length = numL b0 b1 b2 b3) (h2 : r.num = (numL c0 c1 c2 c3 : Nat)) (hb : numL b0 b1 b2 b3 < 4294967296) (hc : numL c0 c1 c2 c3 < 4294967296) : headL r = [b0, b1, b2, b3, c0, c1, c2, c3] := by
  unfold headL
  rw [h1, h2, ofInt_nat, four_num (b0 := b0) (b1 := b1) (b2 := b2) (b3 := b3) (by rw [BitVec.toNat_ofNat]; omega), four_num (b0 := c0) (b1 := c1) (b2 := c2) (b3 := c3) (by rw [BitVec.toNat_ofNat]; omega)]
  rfl
theorem oneL_short {bs : List (BitVec 8)} (h : bs.length < 12) : oneL bs = none := by
  unfold oneL
  split
  · simp at h; omega
  · rfl
theorem oneL_some {bs : List (BitVec 8)} {r : Rec} (h : oneL bs = some r) : r.ok = true ∧ ∃ q, bs = bytesL r ++ q := by
  unfold oneL at h
  split at h
  · rename_i b0 b1 b2 b3 c0 c1 c2 c3 d0 d1 d2 d3 bs
    split at h
    · rename_i hc
      obtain ⟨g1, g2, g3, g4⟩ := hc
      simp only [Option.some.injEq] at h
      subst h
      have hl : (bs.take (numL b0 b1 b2 b3)).length = numL b0 b1 b2 b3 := by simp; omega
      refine ⟨(Rec.ok_iff _).2 ⟨by simp only; omega, by simp only; omega, by simp only [hl]; omega⟩, bs.drop (numL b0 b1 b2 b3), ?_⟩
      unfold bytesL
      rw [head_of (r := ⟨numL c0 c1 c2 c3, bs.take (numL b0 b1 b2 b3)⟩) hl rfl (by omega) (by omega), ← g4, four_getV]
      simp
    · cases h
  · cases h
theorem oneL_bytes {r : Rec} (h : r.ok = true) (q : List (BitVec 8)) : oneL (bytesL r ++ q) = some r := by
  obtain ⟨h0, h1, h2⟩ := r.ok_iff.1 h
  obtain ⟨n, hn⟩ : ∃ n : Nat, r.num = n := ⟨r.num.toNat, by omega⟩
  obtain ⟨b0, b1, b2, b3, hb⟩ : ∃ b0 b1 b2 b3, fourL (BitVec.ofNat 32 r.data.length) = [b0, b1, b2, b3] := ⟨_, _, _, _, rfl⟩
  obtain ⟨c0, c1, c2, c3, hc⟩ : ∃ b0 b1 b2 b3, fourL (BitVec.ofInt 32 r.num) = [b0, b1, b2, b3] := ⟨_, _, _, _, rfl⟩
  obtain ⟨d0, d1, d2, d3, hd⟩ : ∃ b0 b1 b2 b3, fourL (updV 0#32 (headL r ++ r.data)) = [b0, b1, b2, b3] := ⟨_, _, _, _, rfl⟩
  have n1 := num_four hb
  have n2 := num_four hc
  rw [BitVec.toNat_ofNat, Nat.mod_eq_of_lt (by omega)] at n1
  rw [hn, ofInt_nat, BitVec.toNat_ofNat, Nat.mod_eq_of_lt (by omega)] at n2
  have n3 : getV d0 d1 d2 d3 4 = updV 0#32 (headL r ++ r.data) := four_inj (by rw [four_getV, hd])
  have hh : headL r = [b0, b1, b2, b3, c0, c1, c2, c3] := by unfold headL; rw [hb, hc]; rfl
  unfold bytesL
  rw [hd, hh]
  rw [hh] at n3
  simp only [List.cons_append, List.nil_append, oneL]
  rw [← n1, ← n2, List.take_left]
  rw [if_pos ⟨by omega, by simp, by omega, by simpa using n3⟩]
  congr 1
  cases r
  simp only at hn ⊢
  rw [hn]
def nextL (bs : List (BitVec 8)) (m : List Rec) : Option Rec := match oneL (bs.drop (catR m).length) with
  | some r => match m.getLast? with
    | some p => if r.num = p.num + 1 then some r else none
    | none => some r
  | none => none
def scanF (bs : List (BitVec 8)) : Nat → List Rec → List Rec
  | 0, m => m
  | f + 1, m => match nextL bs m with
    | some r => scanF bs f (m ++ [r])
    | none => m
def scanL (bs : List (BitVec 8)) : List Rec := scanF bs (bs.length + 1) []
theorem catR_append (l m : List Rec) : catR (l ++ m) = catR l ++ catR m := by simp [catR]
theorem catR_split {l : List Rec} {k : Nat} (h : k < l.length) : catR l = catR (l.take k) ++ (bytesL l[k] ++ catR (l.drop (k + 1))) := by
  have : l = l.take k ++ (l[k] :: l.drop (k + 1)) := by rw [List.getElem_cons_drop h, List.take_append_drop]
  conv => lhs; rw [this]
  rw [catR_append]
  have h2 : catR (l[k] :: l.drop (k + 1)) = bytesL l[k] ++ catR (l.drop (k + 1)) := by unfold catR; rw [List.map_cons, List.flatten_cons]
  rw [h2]
theorem catR_one (r : Rec) : catR [r] = bytesL r := by simp [catR]
theorem catR_nil : catR [] = [] := rfl
theorem nextL_some {bs : List (BitVec 8)} {m : List Rec} {r : Rec} (h : nextL bs m = some r) : oneL (bs.drop (catR m).length) = some r ∧ ∀ p, m.getLast? = some p → r.num = p.num + 1 := by
  unfold nextL at h
  split at h
  · rename_i r' h1
    split at h
    · rename_i p hp
      split at h
      · simp only [Option.some.injEq] at h
        subst h
        exact ⟨h1, fun p' hp' => by rw [hp] at hp'; cases hp'; assumption⟩
      · cases h
    · rename_i hp
      simp only [Option.some.injEq] at h
      subst h
      exact ⟨h1, fun p' hp' => by rw [hp] at hp'; cases hp'⟩
  · cases h
theorem nextL_len {bs : List (BitVec 8)} {m : List Rec} {r : Rec} (h : nextL bs m = some r) (hm : (catR m).length ≤ bs.length) : (catR (m ++ [r])).length ≤ bs.length ∧ (catR (m ++ [r])).length = (catR m).length + 12 + r.data.length := by
  obtain ⟨h1, _⟩ := nextL_some h
  obtain ⟨_, q, hq⟩ := oneL_some h1
  have := congrArg List.length hq
  rw [catR_append, catR_one, List.length_append, bytesL_length]
  rw [List.length_append, bytesL_length, List.length_drop] at this
  omega
structure ScanOK (bs : List (BitVec 8)) (m : List Rec) : Prop where
  bytes : ∃ q, bs = catR m ++ q
  ok : ∀ r ∈ m, r.ok = true
  row : ∀ k (h : k + 1 < m.length), m[k + 1].num = m[k].num + 1
theorem scanOK_nil (bs : List (BitVec 8)) : ScanOK bs [] := ⟨⟨bs, rfl⟩, by simp, by simp⟩
theorem scanOK_step {bs : List (BitVec 8)} {m : List Rec} {r : Rec} (hm : ScanOK bs m) (h : nextL bs m = some r) : ScanOK bs (m ++ [r]) := by
  obtain ⟨h1, h2⟩ := nextL_some h
  obtain ⟨h3, q, hq⟩ := oneL_some h1
  obtain ⟨q0, hq0⟩ := hm.bytes
  refine ⟨⟨q, ?_⟩, fun x hx => ?_, fun k hk => ?_⟩
  · rw [hq0, List.drop_left] at hq
    rw [catR_append, catR_one, hq0, hq, List.append_assoc]
  · rcases List.mem_append.1 hx with hx | hx
    · exact hm.ok x hx
    · simp at hx; subst hx; exact h3
  · simp only [List.length_append, List.length_singleton] at hk
    by_cases e : k + 1 < m.length
    · rw [List.getElem_append_left e, List.getElem_append_left (by omega)]
      exact hm.row k e
    · have e2 : k + 1 = m.length := by omega
      rw [List.getElem_append_right (by omega), List.getElem_append_left (by omega)]
      simp only [e2, Nat.sub_self, List.getElem_cons_zero]
      refine h2 m[k] ?_
      rw [List.getLast?_eq_getElem?]
      simp [← e2]
theorem scanF_ok {bs : List (BitVec 8)} : ∀ (f : Nat) (m : List Rec), ScanOK bs m → ScanOK bs (scanF bs f m)
  | 0, m, h => h
  | f + 1, m, h => by
    unfold scanF
    split
    · rename_i r hr
      exact scanF_ok f _ (scanOK_step h hr)
    · exact h
theorem scanL_ok (bs : List (BitVec 8)) : ScanOK bs (scanL bs) := scanF_ok _ _ (scanOK_nil bs)
theorem scanF_unique {bs : List (BitVec 8)} (l : List Rec) (hl : ScanOK bs l) (he : nextL bs l = none) : ∀ (f k : Nat), k ≤ l.length → bs.length < f + (catR (l.take k)).length → scanF bs f (l.take k) = l
  | 0, k, hk, hf => by
    obtain ⟨q, hq⟩ := hl.bytes
    have := congrArg List.length hq
    have h2 := catR_le l k
    rw [List.length_append] at this
    omega
  | f + 1, k, hk, hf => by
    unfold scanF
    by_cases e : k = l.length
    · subst e
      rw [List.take_length, he]
    · have hk' : k < l.length := by omega
      obtain ⟨q, hq⟩ := hl.bytes
      have hn : nextL bs (l.take k) = some l[k] := by
        have h1 : bs.drop (catR (l.take k)).length = bytesL l[k] ++ (catR (l.drop (k + 1)) ++ q) := by
          rw [hq, catR_split hk', List.append_assoc, List.drop_left, List.append_assoc]
        unfold nextL
        rw [h1, oneL_bytes (hl.ok _ (List.getElem_mem hk'))]
        simp only
        split
        · rename_i p hp
          rw [List.getLast?_eq_getElem?, List.length_take, Nat.min_eq_left (by omega)] at hp
          have hk0 : 0 < k := by
            rcases Nat.eq_zero_or_pos k with h0 | h0
            · subst h0; simp at hp
            · exact h0
          have hp' : l[k - 1]? = some p := by
            rw [List.getElem?_take_of_lt (by omega)] at hp
            exact hp
          have := hl.row (k - 1) (by omega)
          have e1 : k - 1 + 1 = k := by omega
          simp only [e1] at this
          rw [List.getElem?_eq_getElem (by omega)] at hp'
          simp only [Option.some.injEq] at hp'
          rw [if_pos (by rw [this, hp'])]
        · rfl
      rw [hn]
      simp only
      rw [List.take_append_getElem hk']
      refine scanF_unique l hl he f (k + 1) (by omega) ?_
      rw [catR_length_step hk']
      omega
theorem scanL_unique {bs : List (BitVec 8)} {l : List Rec} (hl : ScanOK bs l) (he : nextL bs l = none) : scanL bs = l := scanF_unique l hl he (bs.length + 1) 0 (Nat.zero_le _) (by simp [catR])
end Go.Proofs.Ytlfpafdkegnkoaa.Pm
set_option linter.all false
set_option maxRecDepth 100000
namespace Go.Proofs.Ytlfpafdkegnkoaa.Pm
open Go Go.RowKit
def jmp (l0 l1 : Nat) (J0 J1 : Nat → S → Prop) (l n : Nat) (s : S) : Prop := (l = l0 ∧ J0 n s) ∨ (l = l1 ∧ J1 n s)
def gotoF (x : Cx) (f : Ex → S → Prop) (k : Kont) (J : Nat → Nat → S → Prop) (e : Ex) (s : S) : Prop := match e with
  | .g l => ∃ n, J l n s
  | e => runK x f k e s
def gotoN (x : Cx) (f : Ex → S → Prop) (k : Kont) (J : Nat → Nat → S → Prop) (n : Nat) (e : Ex) (s : S) : Prop := match e with
  | .g l => ∃ n', n' < n ∧ J l n' s
  | e => runK x f k e s
section
variable (x : Cx) (f : Ex → S → Prop) (k : Kont) (J : Nat → Nat → S → Prop) (n : Nat) (s : S)
theorem gotoF_g (l : Nat) : gotoF x f k J (.g l) s = ∃ n, J l n s := rfl
theorem gotoF_r : gotoF x f k J .r s = Rk x f k .r s .mk := rfl
theorem gotoF_n : gotoF x f k J .n s = Rk x f k .n s .mk := rfl
theorem gotoN_g (l : Nat) : gotoN x f k J n (.g l) s = ∃ n', n' < n ∧ J l n' s := rfl
theorem gotoN_r : gotoN x f k J n .r s = Rk x f k .r s .mk := rfl
theorem gotoN_n : gotoN x f k J n .n s = Rk x f k .n s .mk := rfl
end
attribute [go_sem ↓] gotoF_g gotoF_r gotoF_n gotoN_g gotoN_r gotoN_n
theorem scope_2 {x : Cx} {f : Ex → S → Prop} {k : Kont} {ad : List (Nat × Nat)} {mk : List Nat} {c c0 c1 : C} {l0 l1 : Nat} {s : S} {l : Lock (f, k, c, [(l0, c0), (l1, c1)])} (J0 J1 : Nat → S → Prop) (hne : l0 ≠ l1)
    (h1 : Wk x (gotoF x f k (jmp l0 l1 J0 J1)) .base c s .mk)
    (h2 : ∀ n s, J0 n s → ∃ m, Wk x (gotoN x f k (jmp l0 l1 J0 J1) n) .base c0 (cut mk m (adopt ad s)) .mk)
    (h3 : ∀ n s, J1 n s → ∃ m, Wk x (gotoN x f k (jmp l0 l1 J0 J1) n) .base c1 (cut mk m (adopt ad s)) .mk) : Gk x f k ad mk c [(l0, c0), (l1, c1)] s l := by
  refine ⟨jmp l0 l1 J0 J1, h1, ?_⟩
  rintro l n s (⟨rfl, h⟩ | ⟨rfl, h⟩)
  · obtain ⟨m, hm⟩ := h2 n s h
    refine ⟨m, ?_⟩
    simp only [Ws, if_true]
    exact hm
  · obtain ⟨m, hm⟩ := h3 n s h
    refine ⟨m, ?_⟩
    simp only [Ws, if_neg hne, if_true]
    exact hm
def scanV (r : Rec) : List AV := [.t (.i .i64 r.num) true, .t (.sl (bT r.data)) true]
def scanG (bs : List (BitVec 8)) (m : List Rec) (ver : Nat) (b0 b1 : Blk) : S := ⟨tmL [(0, .t (.sl (bT bs)) false), (5, .row 2 ver 0 m.length), (6, .ptr 0 0), (7, .t (.i .i64 (catR m).length) true)], [b0, b1, .row ver 2 (recsT m) true]⟩
def scanE (bs : List (BitVec 8)) (b0 : Blk) : S := ⟨tmL [(0, .t (.sl (bT bs)) false), (5, .row 1 0 0 0), (6, .ptr 0 0), (7, .t (.i .i64 0) true)], [b0, .row 0 2 [] true]⟩
theorem catR_many (l : List Rec) : 12 * l.length ≤ (catR l).length := by
  induction l with
  | nil => simp
  | cons r l ih =>
    have : catR (r :: l) = bytesL r ++ catR l := by unfold catR; rw [List.map_cons, List.flatten_cons]
    rw [this, List.length_append, bytesL_length, List.length_cons]
    omega
theorem scan_same : kc40 = kc18 := rfl
theorem long_split {q : List (BitVec 8)} (h : ¬ q.length < 12) : ∃ b0 b1 b2 b3 c0 c1 c2 c3 d0 d1 d2 d3 bs, q = b0 :: b1 :: b2 :: b3 :: c0 :: c1 :: c2 :: c3 :: d0 :: d1 :: d2 :: d3 :: bs := by
  obtain ⟨x0, q, rfl⟩ := List.exists_cons_of_length_pos (l := q) (by omega)
  obtain ⟨x1, q, rfl⟩ := List.exists_cons_of_length_pos (l := q) (by simp only [List.length_cons] at h; omega)
  obtain ⟨x2, q, rfl⟩ := List.exists_cons_of_length_pos (l := q) (by simp only [List.length_cons] at h; omega)
  obtain ⟨x3, q, rfl⟩ := List.exists_cons_of_length_pos (l := q) (by simp only [List.length_cons] at h; omega)
  obtain ⟨x4, q, rfl⟩ := List.exists_cons_of_length_pos (l := q) (by simp only [List.length_cons] at h; omega)
  obtain ⟨x5, q, rfl⟩ := List.exists_cons_of_length_pos (l := q) (by simp only [List.length_cons] at h; omega)
  obtain ⟨x6, q, rfl⟩ := List.exists_cons_of_length_pos (l := q) (by simp only [List.length_cons] at h; omega)
  obtain ⟨x7, q, rfl⟩ := List.exists_cons_of_length_pos (l := q) (by simp only [List.length_cons] at h; omega)
  obtain ⟨x8, q, rfl⟩ := List.exists_cons_of_length_pos (l := q) (by simp only [List.length_cons] at h; omega)
  obtain ⟨x9, q, rfl⟩ := List.exists_cons_of_length_pos (l := q) (by simp only [List.length_cons] at h; omega)
  obtain ⟨x10, q, rfl⟩ := List.exists_cons_of_length_pos (l := q) (by simp only [List.length_cons] at h; omega)
  obtain ⟨x11, q, rfl⟩ := List.exists_cons_of_length_pos (l := q) (by simp only [List.length_cons] at h; omega)
  exact ⟨_, _, _, _, _, _, _, _, _, _, _, _, _, rfl⟩
theorem scan_round (bs : List (BitVec 8)) (hl : bs.length ≤ 20000) (M : List Rec) (hm : (catR M).length ≤ bs.length) (hM : M ≠ []) (hok : ∀ r ∈ M, r.ok = true) (ver : Nat) (a b : AV) (b1 : Blk) (f : Ex → S → Prop)
    (h0 : ∀ r s', nextL bs M = some r → (∃ b1, cut [0, 5, 6, 7] 3 (adopt [(5, 2)] s') = scanG bs (M ++ [r]) (ver + 1) (.var (scanV r)) b1) → f (.g 0) s')
    (h1 : ∀ s', nextL bs M = none → (∃ b0 b1, cut [0, 5, 6, 7] 3 (adopt [(5, 2)] s') = scanG bs M ver b0 b1) → f (.g 1) s') : Wk X f .base kc18 (scanG bs M ver (.var [a, b]) b1) .mk := by
  have hle : (((catR M).length : Nat) : Int) ≤ ((bs.length : Nat) : Int) := by omega
  simp -implicitDefEqProofs only [go_sem, seval, scanG, hle, bT_rest bs _ hm, Int.le_refl]
  refine ⟨.inr (okEs_bT bs), ?_⟩
  generalize hq : bs.drop (catR M).length = q
  by_cases h12 : q.length < 12
  · have e12 : ((q.length : Int) < 12) = True := eq_true (by omega)
    simp -implicitDefEqProofs only [go_sem, seval, e12]
    refine h1 _ ?_ ?_
    · unfold nextL
      rw [hq, oneL_short h12]
    · simp -implicitDefEqProofs only [go_sem, seval, scanG]
      exact ⟨_, _, rfl⟩
  · obtain ⟨b0, b1, b2, b3, c0, c1, c2, c3, d0, d1, d2, d3, bs', rfl⟩ := long_split h12
    have hbl : (catR M).length + (bs'.length + 12) = bs.length := by
      have := congrArg List.length hq
      simp only [List.length_drop, List.length_cons] at this
      omega
    have e12 : (((bs'.length + 1 + 1 + 1 + 1 + 1 + 1 + 1 + 1 + 1 + 1 + 1 + 1 : Nat) : Int) < 12) = False := eq_false (by omega)
    simp -implicitDefEqProofs only [go_sem, seval, e12]
    refine call_k (s_frame_get b0 b1 b2 b3 (c0 :: c1 :: c2 :: c3 :: d0 :: d1 :: d2 :: d3 :: bs') (by simp only [List.length_cons]; omega)) ?_
    have hb := getV_num b0 b1 b2 b3
    have hc := getV_num c0 c1 c2 c3
    have hd := getV_num d0 d1 d2 d3
    have hnone : ¬ (numL b0 b1 b2 b3 ≤ 1000 ∧ numL b0 b1 b2 b3 ≤ bs'.length ∧ numL c0 c1 c2 c3 ≤ 1000000000 ∧ getV d0 d1 d2 d3 4 = updV 0#32 ([b0, b1, b2, b3, c0, c1, c2, c3] ++ bs'.take (numL b0 b1 b2 b3))) → nextL bs M = none := fun h => by
      unfold nextL
      rw [hq]
      simp only [oneL, if_neg h]
    have w12 : IntKind.i64.wrap (((bs'.length + 1 + 1 + 1 + 1 + 1 + 1 + 1 + 1 + 1 + 1 + 1 + 1 : Nat) : Int) - 12) = (bs'.length : Int) := by rw [wrap_i64_id (by omega) (by omega)]; omega
    have wb : IntKind.i64.wrap ((numL b0 b1 b2 b3 : Nat) : Int) = ((numL b0 b1 b2 b3 : Nat) : Int) := by
      have := (getV b0 b1 b2 b3 4).isLt
      rw [wrap_i64_id (by omega) (by omega)]
    by_cases g1 : 1000 < numL b0 b1 b2 b3
    · have f1 : (((numL b0 b1 b2 b3 : Nat) : Int) > 1000) = True := eq_true (by omega)
      simp -implicitDefEqProofs only [go_sem, seval, hb, f1]
      refine h1 _ (hnone (by omega)) ?_
      simp -implicitDefEqProofs only [go_sem, seval, scanG]
      exact ⟨_, _, rfl⟩
    have f1 : (((numL b0 b1 b2 b3 : Nat) : Int) > 1000) = False := eq_false (by omega)
    by_cases g2 : bs'.length < numL b0 b1 b2 b3
    · have f2 : (((numL b0 b1 b2 b3 : Nat) : Int) > ((bs'.length : Nat) : Int)) = True := eq_true (by omega)
      simp -implicitDefEqProofs only [go_sem, seval, hb, f1, w12, wb, f2]
      refine h1 _ (hnone (by omega)) ?_
      simp -implicitDefEqProofs only [go_sem, seval, scanG]
      exact ⟨_, _, rfl⟩
    have f2 : (((numL b0 b1 b2 b3 : Nat) : Int) > ((bs'.length : Nat) : Int)) = False := eq_false (by omega)
    simp -implicitDefEqProofs only [go_sem, seval, hb, f1, w12, wb, f2]
    have wc : IntKind.i64.wrap ((numL c0 c1 c2 c3 : Nat) : Int) = ((numL c0 c1 c2 c3 : Nat) : Int) := by
      have := (getV c0 c1 c2 c3 4).isLt
      rw [wrap_i64_id (by omega) (by omega)]
    have e4 : List.take (((bs'.length + 1 + 1 + 1 + 1 + 1 + 1 + 1 + 1 + 1 + 1 + 1 + 1 : Nat) : Int) - 4).toNat (List.drop 4 (bT (b0 :: b1 :: b2 :: b3 :: c0 :: c1 :: c2 :: c3 :: d0 :: d1 :: d2 :: d3 :: bs'))) = bT (c0 :: c1 :: c2 :: c3 :: d0 :: d1 :: d2 :: d3 :: bs') :=
      bT_rest (b0 :: b1 :: b2 :: b3 :: c0 :: c1 :: c2 :: c3 :: d0 :: d1 :: d2 :: d3 :: bs') 4 (by simp)
    have e8 : List.take (((bs'.length + 1 + 1 + 1 + 1 + 1 + 1 + 1 + 1 + 1 + 1 + 1 + 1 : Nat) : Int) - 8).toNat (List.drop 8 (bT (b0 :: b1 :: b2 :: b3 :: c0 :: c1 :: c2 :: c3 :: d0 :: d1 :: d2 :: d3 :: bs'))) = bT (d0 :: d1 :: d2 :: d3 :: bs') :=
      bT_rest (b0 :: b1 :: b2 :: b3 :: c0 :: c1 :: c2 :: c3 :: d0 :: d1 :: d2 :: d3 :: bs') 8 (by simp)
    have w2 : IntKind.i64.wrap (12 + ((numL b0 b1 b2 b3 : Nat) : Int)) = ((12 + numL b0 b1 b2 b3 : Nat) : Int) := by rw [wrap_i64_id (by omega) (by omega)]; omega
    have ed : List.take (((12 + numL b0 b1 b2 b3 : Nat) : Int) - 12).toNat (List.drop 12 (bT (b0 :: b1 :: b2 :: b3 :: c0 :: c1 :: c2 :: c3 :: d0 :: d1 :: d2 :: d3 :: bs'))) = bT (bs'.take (numL b0 b1 b2 b3)) := by
      rw [show (((12 + numL b0 b1 b2 b3 : Nat) : Int) - 12).toNat = numL b0 b1 b2 b3 by omega, bT_dropN, bT_takeN]
      rfl
    refine ⟨⟨⟨by omega, by omega⟩, okEs_bT _⟩, ?_⟩
    refine call_k (s_frame_get c0 c1 c2 c3 (d0 :: d1 :: d2 :: d3 :: bs') (by simp only [List.length_cons]; omega)) ?_ (by simp -implicitDefEqProofs only [go_sem, seval, e4])
    simp -implicitDefEqProofs only [go_sem, seval]
    refine call_k (s_frame_get b0 b1 b2 b3 (c0 :: c1 :: c2 :: c3 :: d0 :: d1 :: d2 :: d3 :: bs') (by simp only [List.length_cons]; omega)) ?_
    simp -implicitDefEqProofs only [go_sem, seval, hb, hc, wb, wc, w2]
    refine ⟨⟨⟨by omega, by omega⟩, okEs_bT _⟩, ?_⟩
    refine call_k (s_bytes_Clone (bs'.take (numL b0 b1 b2 b3)) (by rw [List.length_take]; omega)) ?_ (by simp -implicitDefEqProofs only [go_sem, seval, ed])
    by_cases g3 : 1000000000 < numL c0 c1 c2 c3
    · have f3 : (((numL c0 c1 c2 c3 : Nat) : Int) > 1000000000) = True := eq_true (by omega)
      simp -implicitDefEqProofs only [go_sem, seval, hc, wc, f3]
      refine h1 _ (hnone (by omega)) ?_
      simp -implicitDefEqProofs only [go_sem, seval, scanG]
      exact ⟨_, _, rfl⟩
    have f3 : (((numL c0 c1 c2 c3 : Nat) : Int) > 1000000000) = False := eq_false (by omega)
    simp -implicitDefEqProofs only [go_sem, seval, hc, wc, f3]
    refine ⟨⟨⟨by omega, by omega⟩, okEs_bT _⟩, ?_⟩
    refine call_d (s_frame_get d0 d1 d2 d3 bs' (by omega)) ?_ (by simp -implicitDefEqProofs only [go_sem, seval, e8])
    simp -implicitDefEqProofs only [go_sem, seval, Int.natCast_zero]
    refine ⟨⟨by omega, .inl trivial⟩, ?_⟩
    refine call_d (s_frame_sum [b0, b1, b2, b3, c0, c1, c2, c3] (bs'.take (numL b0 b1 b2 b3)) (by simp) (by rw [List.length_take]; omega)) ?_ ?_
    · by_cases g4 : getV d0 d1 d2 d3 4 = updV 0#32 (b0 :: b1 :: b2 :: b3 :: c0 :: c1 :: c2 :: c3 :: bs'.take (numL b0 b1 b2 b3))
      · have f4 : (((getV d0 d1 d2 d3 4).toNat : Int) != ((updV 0#32 (b0 :: b1 :: b2 :: b3 :: c0 :: c1 :: c2 :: c3 :: bs'.take (numL b0 b1 b2 b3))).toNat : Int)) = false := by rw [g4]; simp
        have hone : oneL (bs.drop (catR M).length) = some ⟨numL c0 c1 c2 c3, bs'.take (numL b0 b1 b2 b3)⟩ := by
          rw [hq]
          simp only [oneL]
          rw [if_pos ⟨by omega, by omega, by omega, g4⟩]
        obtain ⟨p, hp⟩ : ∃ p, M.getLast? = some p := by
          cases hx : M.getLast? with
          | none => exact (hM (List.getLast?_eq_none_iff.1 hx)).elim
          | some p => exact ⟨p, rfl⟩
        have hpos : 0 < M.length := List.length_pos_iff.2 hM
        have hgt : ((M.length : Int) > 0) = True := eq_true (by omega)
        have hix : (M.length : Int) - 1 = ((M.length - 1 : Nat) : Int) := by omega
        have hw1 : IntKind.i64.wrap ((M.length : Int) - 1) = ((M.length - 1 : Nat) : Int) := by
          have := catR_many M
          rw [wrap_i64_id (by omega) (by omega)]; omega
        have hpm : p ∈ M := List.mem_of_getLast? hp
        obtain ⟨k0, k1, k2⟩ := p.ok_iff.1 (hok p hpm)
        have wp : IntKind.i64.wrap (p.num + 1) = p.num + 1 := wrap_i64_id (by omega) (by omega)
        have hlt1 : (((M.length - 1 : Nat) : Int) < (M.length : Int)) = True := eq_true (by omega)
        have hget : (recsT M)[M.length - 1]? = some p.cells := by
          rw [List.getLast?_eq_getElem?] at hp
          simp [recsT, hp]
        simp -implicitDefEqProofs only [go_sem, seval, f4, recsT_length, hgt, hw1, hlt1, hget, Rec.cells, wp]
        by_cases g5 : p.num + 1 = (numL c0 c1 c2 c3 : Nat)
        · have f5 : (p.num + 1 != ((numL c0 c1 c2 c3 : Nat) : Int)) = false := by rw [g5]; simp
          have hnx : nextL bs M = some ⟨numL c0 c1 c2 c3, bs'.take (numL b0 b1 b2 b3)⟩ := by
            unfold nextL
            rw [hone]
            simp only [hp]
            rw [if_pos g5.symm]
          have hln := (nextL_len hnx hm).2
          simp only at hln
          have hcm := catR_many M
          have hdl : (bs'.take (numL b0 b1 b2 b3)).length = numL b0 b1 b2 b3 := by rw [List.length_take]; omega
          have wl : IntKind.i64.wrap (12 + (((bs'.take (numL b0 b1 b2 b3)).length : Nat) : Int)) = ((12 + (bs'.take (numL b0 b1 b2 b3)).length : Nat) : Int) := by rw [wrap_i64_id (by omega) (by omega)]; omega
          have wa : IntKind.i64.wrap (((catR M).length : Int) + ((12 + (bs'.take (numL b0 b1 b2 b3)).length : Nat) : Int)) = (((catR (M ++ [(⟨numL c0 c1 c2 c3, bs'.take (numL b0 b1 b2 b3)⟩ : Rec)])).length : Nat) : Int) := by rw [wrap_i64_id (by omega) (by omega)]; omega
          simp -implicitDefEqProofs only [go_sem, seval, f5, wl, wa]
          refine ⟨⟨by simp [okEs, T.one], by rw [recsT_length]; exact Nat.le_refl _, by unfold room; omega⟩, h0 _ _ hnx ?_⟩
          simp -implicitDefEqProofs only [go_sem, seval, scanG, scanV]
          have e1 : List.take M.length (recsT M) ++ [[T.i .i64 (numL c0 c1 c2 c3), T.sl (bT (bs'.take (numL b0 b1 b2 b3)))]] = recsT (M ++ [(⟨numL c0 c1 c2 c3, bs'.take (numL b0 b1 b2 b3)⟩ : Rec)]) := by
            rw [List.take_of_length_le (by rw [recsT_length]; exact Nat.le_refl _)]
            simp [recsT, Rec.cells]
          have e2 : (M ++ [(⟨numL c0 c1 c2 c3, bs'.take (numL b0 b1 b2 b3)⟩ : Rec)]).length = M.length + 1 := by simp
          rw [e1, e2]
          exact ⟨_, rfl⟩
        · have f5 : (p.num + 1 != ((numL c0 c1 c2 c3 : Nat) : Int)) = true := by rw [bne_iff_ne]; exact g5
          simp -implicitDefEqProofs only [go_sem, seval, f5]
          refine h1 _ ?_ ?_
          · unfold nextL
            rw [hone]
            simp only [hp]
            rw [if_neg (fun e => g5 e.symm)]
          · simp -implicitDefEqProofs only [go_sem, seval, scanG]
            exact ⟨_, _, rfl⟩
      · have f4 : (((getV d0 d1 d2 d3 4).toNat : Int) != ((updV 0#32 (b0 :: b1 :: b2 :: b3 :: c0 :: c1 :: c2 :: c3 :: bs'.take (numL b0 b1 b2 b3))).toNat : Int)) = true := by
          rw [bne_iff_ne]
          intro e
          exact g4 (BitVec.eq_of_toNat_eq (by omega))
        simp -implicitDefEqProofs only [go_sem, seval, f4]
        refine h1 _ (hnone fun h => g4 h.2.2.2) ?_
        simp -implicitDefEqProofs only [go_sem, seval, scanG]
        exact ⟨_, _, rfl⟩
    · simp -implicitDefEqProofs only [go_sem, seval]
      rfl
theorem scan_first (bs : List (BitVec 8)) (hl : bs.length ≤ 20000) (f : Ex → S → Prop)
    (h0 : ∀ r s', nextL bs [] = some r → (∃ b1, cut [0, 5, 6, 7] 3 (adopt [(5, 2)] s') = scanG bs [r] 0 (.var (scanV r)) b1) → f (.g 0) s')
    (h1 : ∀ s', nextL bs [] = none → (∃ b0, cut [0, 5, 6, 7] 3 (adopt [(5, 2)] s') = scanE bs b0) → f (.g 1) s') : Wk X f .base kc18 ⟨tmL [(0, .t (.sl (bT bs)) false), (5, .nl), (6, .ptr 0 0), (7, .t (.i .i64 0) true)], [.var [.t (.i .i64 0) true, .nl]]⟩ .mk := by
  have hn0 : (0 : Int) ≤ ((bs.length : Nat) : Int) := by omega
  simp -implicitDefEqProofs only [go_sem, seval, hn0, Int.sub_zero, bT_take_self, Int.le_refl]
  refine ⟨.inl trivial, ?_⟩
  by_cases h12 : bs.length < 12
  · have e12 : ((bs.length : Int) < 12) = True := eq_true (by omega)
    simp -implicitDefEqProofs only [go_sem, seval, e12]
    refine h1 _ ?_ ?_
    · unfold nextL
      rw [catR_nil, List.length_nil, List.drop_zero, oneL_short h12]
    · simp -implicitDefEqProofs only [go_sem, seval, scanE]
      exact ⟨_, rfl⟩
  · obtain ⟨b0, b1, b2, b3, c0, c1, c2, c3, d0, d1, d2, d3, bs', rfl⟩ := long_split h12
    have hbl : bs'.length + 12 ≤ 20000 := by
      simp only [List.length_cons] at hl
      omega
    have e12 : (((bs'.length + 1 + 1 + 1 + 1 + 1 + 1 + 1 + 1 + 1 + 1 + 1 + 1 : Nat) : Int) < 12) = False := eq_false (by omega)
    simp -implicitDefEqProofs only [go_sem, seval, e12]
    refine call_k (s_frame_get b0 b1 b2 b3 (c0 :: c1 :: c2 :: c3 :: d0 :: d1 :: d2 :: d3 :: bs') (by simp only [List.length_cons]; omega)) ?_
    have hb := getV_num b0 b1 b2 b3
    have hc := getV_num c0 c1 c2 c3
    have hd := getV_num d0 d1 d2 d3
    have hnone : ¬ (numL b0 b1 b2 b3 ≤ 1000 ∧ numL b0 b1 b2 b3 ≤ bs'.length ∧ numL c0 c1 c2 c3 ≤ 1000000000 ∧ getV d0 d1 d2 d3 4 = updV 0#32 ([b0, b1, b2, b3, c0, c1, c2, c3] ++ bs'.take (numL b0 b1 b2 b3))) → nextL (b0 :: b1 :: b2 :: b3 :: c0 :: c1 :: c2 :: c3 :: d0 :: d1 :: d2 :: d3 :: bs') [] = none := fun h => by
      unfold nextL
      rw [catR_nil, List.length_nil, List.drop_zero]
      simp only [oneL, if_neg h]
    have w12 : IntKind.i64.wrap (((bs'.length + 1 + 1 + 1 + 1 + 1 + 1 + 1 + 1 + 1 + 1 + 1 + 1 : Nat) : Int) - 12) = (bs'.length : Int) := by rw [wrap_i64_id (by omega) (by omega)]; omega
    have wb : IntKind.i64.wrap ((numL b0 b1 b2 b3 : Nat) : Int) = ((numL b0 b1 b2 b3 : Nat) : Int) := by
      have := (getV b0 b1 b2 b3 4).isLt
      rw [wrap_i64_id (by omega) (by omega)]
    by_cases g1 : 1000 < numL b0 b1 b2 b3
    · have f1 : (((numL b0 b1 b2 b3 : Nat) : Int) > 1000) = True := eq_true (by omega)
      simp -implicitDefEqProofs only [go_sem, seval, hb, f1]
      refine h1 _ (hnone (by omega)) ?_
      simp -implicitDefEqProofs only [go_sem, seval, scanE]
      exact ⟨_, rfl⟩
    have f1 : (((numL b0 b1 b2 b3 : Nat) : Int) > 1000) = False := eq_false (by omega)
    by_cases g2 : bs'.length < numL b0 b1 b2 b3
    · have f2 : (((numL b0 b1 b2 b3 : Nat) : Int) > ((bs'.length : Nat) : Int)) = True := eq_true (by omega)
      simp -implicitDefEqProofs only [go_sem, seval, hb, f1, w12, wb, f2]
      refine h1 _ (hnone (by omega)) ?_
      simp -implicitDefEqProofs only [go_sem, seval, scanE]
      exact ⟨_, rfl⟩
    have f2 : (((numL b0 b1 b2 b3 : Nat) : Int) > ((bs'.length : Nat) : Int)) = False := eq_false (by omega)
    simp -implicitDefEqProofs only [go_sem, seval, hb, f1, w12, wb, f2]
    have wc : IntKind.i64.wrap ((numL c0 c1 c2 c3 : Nat) : Int) = ((numL c0 c1 c2 c3 : Nat) : Int) := by
      have := (getV c0 c1 c2 c3 4).isLt
      rw [wrap_i64_id (by omega) (by omega)]
    have e4 : List.take (((bs'.length + 1 + 1 + 1 + 1 + 1 + 1 + 1 + 1 + 1 + 1 + 1 + 1 : Nat) : Int) - 4).toNat (List.drop 4 (bT (b0 :: b1 :: b2 :: b3 :: c0 :: c1 :: c2 :: c3 :: d0 :: d1 :: d2 :: d3 :: bs'))) = bT (c0 :: c1 :: c2 :: c3 :: d0 :: d1 :: d2 :: d3 :: bs') :=
      bT_rest (b0 :: b1 :: b2 :: b3 :: c0 :: c1 :: c2 :: c3 :: d0 :: d1 :: d2 :: d3 :: bs') 4 (by simp)
    have e8 : List.take (((bs'.length + 1 + 1 + 1 + 1 + 1 + 1 + 1 + 1 + 1 + 1 + 1 + 1 : Nat) : Int) - 8).toNat (List.drop 8 (bT (b0 :: b1 :: b2 :: b3 :: c0 :: c1 :: c2 :: c3 :: d0 :: d1 :: d2 :: d3 :: bs'))) = bT (d0 :: d1 :: d2 :: d3 :: bs') :=
      bT_rest (b0 :: b1 :: b2 :: b3 :: c0 :: c1 :: c2 :: c3 :: d0 :: d1 :: d2 :: d3 :: bs') 8 (by simp)
    have w2 : IntKind.i64.wrap (12 + ((numL b0 b1 b2 b3 : Nat) : Int)) = ((12 + numL b0 b1 b2 b3 : Nat) : Int) := by rw [wrap_i64_id (by omega) (by omega)]; omega
    have ed : List.take (((12 + numL b0 b1 b2 b3 : Nat) : Int) - 12).toNat (List.drop 12 (bT (b0 :: b1 :: b2 :: b3 :: c0 :: c1 :: c2 :: c3 :: d0 :: d1 :: d2 :: d3 :: bs'))) = bT (bs'.take (numL b0 b1 b2 b3)) := by
      rw [show (((12 + numL b0 b1 b2 b3 : Nat) : Int) - 12).toNat = numL b0 b1 b2 b3 by omega, bT_dropN, bT_takeN]
      rfl
    refine ⟨⟨⟨by omega, by omega⟩, okEs_bT _⟩, ?_⟩
    refine call_k (s_frame_get c0 c1 c2 c3 (d0 :: d1 :: d2 :: d3 :: bs') (by simp only [List.length_cons]; omega)) ?_ (by simp -implicitDefEqProofs only [go_sem, seval, e4])
    simp -implicitDefEqProofs only [go_sem, seval]
    refine call_k (s_frame_get b0 b1 b2 b3 (c0 :: c1 :: c2 :: c3 :: d0 :: d1 :: d2 :: d3 :: bs') (by simp only [List.length_cons]; omega)) ?_
    simp -implicitDefEqProofs only [go_sem, seval, hb, hc, wb, wc, w2]
    refine ⟨⟨⟨by omega, by omega⟩, okEs_bT _⟩, ?_⟩
    refine call_k (s_bytes_Clone (bs'.take (numL b0 b1 b2 b3)) (by rw [List.length_take]; omega)) ?_ (by simp -implicitDefEqProofs only [go_sem, seval, ed])
    by_cases g3 : 1000000000 < numL c0 c1 c2 c3
    · have f3 : (((numL c0 c1 c2 c3 : Nat) : Int) > 1000000000) = True := eq_true (by omega)
      simp -implicitDefEqProofs only [go_sem, seval, hc, wc, f3]
      refine h1 _ (hnone (by omega)) ?_
      simp -implicitDefEqProofs only [go_sem, seval, scanE]
      exact ⟨_, rfl⟩
    have f3 : (((numL c0 c1 c2 c3 : Nat) : Int) > 1000000000) = False := eq_false (by omega)
    simp -implicitDefEqProofs only [go_sem, seval, hc, wc, f3]
    refine ⟨⟨⟨by omega, by omega⟩, okEs_bT _⟩, ?_⟩
    refine call_d (s_frame_get d0 d1 d2 d3 bs' (by omega)) ?_ (by simp -implicitDefEqProofs only [go_sem, seval, e8])
    simp -implicitDefEqProofs only [go_sem, seval, Int.natCast_zero]
    refine ⟨⟨by omega, .inl trivial⟩, ?_⟩
    refine call_d (s_frame_sum [b0, b1, b2, b3, c0, c1, c2, c3] (bs'.take (numL b0 b1 b2 b3)) (by simp) (by rw [List.length_take]; omega)) ?_ ?_
    · by_cases g4 : getV d0 d1 d2 d3 4 = updV 0#32 (b0 :: b1 :: b2 :: b3 :: c0 :: c1 :: c2 :: c3 :: bs'.take (numL b0 b1 b2 b3))
      · have f4 : (((getV d0 d1 d2 d3 4).toNat : Int) != ((updV 0#32 (b0 :: b1 :: b2 :: b3 :: c0 :: c1 :: c2 :: c3 :: bs'.take (numL b0 b1 b2 b3))).toNat : Int)) = false := by rw [g4]; simp
        have hone : oneL (b0 :: b1 :: b2 :: b3 :: c0 :: c1 :: c2 :: c3 :: d0 :: d1 :: d2 :: d3 :: bs') = some ⟨numL c0 c1 c2 c3, bs'.take (numL b0 b1 b2 b3)⟩ := by
          simp only [oneL]
          rw [if_pos ⟨by omega, by omega, by omega, g4⟩]
        have hnx : nextL (b0 :: b1 :: b2 :: b3 :: c0 :: c1 :: c2 :: c3 :: d0 :: d1 :: d2 :: d3 :: bs') [] = some ⟨numL c0 c1 c2 c3, bs'.take (numL b0 b1 b2 b3)⟩ := by
          unfold nextL
          rw [catR_nil, List.length_nil, List.drop_zero, hone]
          rfl
        have hln := (nextL_len hnx (by simp [catR])).2
        simp only [catR_nil, List.length_nil] at hln
        have hdl : (bs'.take (numL b0 b1 b2 b3)).length = numL b0 b1 b2 b3 := by rw [List.length_take]; omega
        have wl : IntKind.i64.wrap (12 + (((bs'.take (numL b0 b1 b2 b3)).length : Nat) : Int)) = ((12 + (bs'.take (numL b0 b1 b2 b3)).length : Nat) : Int) := by rw [wrap_i64_id (by omega) (by omega)]; omega
        have wa : IntKind.i64.wrap ((0 : Int) + ((12 + (bs'.take (numL b0 b1 b2 b3)).length : Nat) : Int)) = (((catR [(⟨numL c0 c1 c2 c3, bs'.take (numL b0 b1 b2 b3)⟩ : Rec)]).length : Nat) : Int) := by
          have : ([] ++ [(⟨numL c0 c1 c2 c3, bs'.take (numL b0 b1 b2 b3)⟩ : Rec)]) = [(⟨numL c0 c1 c2 c3, bs'.take (numL b0 b1 b2 b3)⟩ : Rec)] := rfl
          rw [this] at hln
          rw [wrap_i64_id (by omega) (by omega)]; omega
        simp -implicitDefEqProofs only [go_sem, seval, f4, wl, wa, gt_iff_lt, Int.lt_irrefl, Int.natCast_zero]
        refine ⟨⟨by simp [okEs, T.one], by unfold room; omega⟩, h0 _ _ hnx ?_⟩
        simp -implicitDefEqProofs only [go_sem, seval, scanG, scanV, Rec.cells, recsT]
        exact ⟨_, rfl⟩
      · have f4 : (((getV d0 d1 d2 d3 4).toNat : Int) != ((updV 0#32 (b0 :: b1 :: b2 :: b3 :: c0 :: c1 :: c2 :: c3 :: bs'.take (numL b0 b1 b2 b3))).toNat : Int)) = true := by
          rw [bne_iff_ne]
          intro e
          exact g4 (BitVec.eq_of_toNat_eq (by omega))
        simp -implicitDefEqProofs only [go_sem, seval, f4]
        refine h1 _ (hnone fun h => g4 h.2.2.2) ?_
        simp -implicitDefEqProofs only [go_sem, seval, scanE]
        exact ⟨_, rfl⟩
    · simp -implicitDefEqProofs only [go_sem, seval]
      rfl
end Go.Proofs.Ytlfpafdkegnkoaa.Pm
