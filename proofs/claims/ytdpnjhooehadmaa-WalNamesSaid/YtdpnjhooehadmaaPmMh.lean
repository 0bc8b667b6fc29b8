/- Texts of this proof in one file: PmKw, PmWa, PmWb, PmWc, PmWd, PmWe, PmWf, PmWx. No law of Go's is stated here. -/
import Derived.Test.YtdpnjhooehadmaaPmMg
import Derived.Test.YtdpnjhooehadmaaPmMe
import Derived.Test.YtdpnjhooehadmaaPmMf
import Derived.Test.YtdpnjhooehadmaaPmMd
/-! PmKw -/
set_option linter.all false
set_option maxRecDepth 100000
namespace Go.Proofs.Ytdpnjhooehadmaa.Pm
open Go Go.RowKit


def c_ref04_Great : C := (.seq (.seq (.reg ([⟨some 1, .box 24 (.tmp 0), none⟩, ⟨some 2, .assign (.const (.bool false)), none⟩])) (.keep [1])) (.seq (.seq (.reg ([⟨some 3, .fieldAddr 24 (.tmp 1) 0, none⟩, ⟨some 4, .load 22 (.tmp 3), none⟩, ⟨some 5, .call { callee := .builtin .len, args := #[(.tmp 4)], argTypes := #[22] }, none⟩, ⟨some 6, .binOp .gtr 3 (.tmp 5) (.const (.int .i64 2000)) 3, none⟩, ⟨some 7, .move (.tmp 6), none⟩, ⟨some 8, .fieldAddr 24 (.tmp 1) 1, some (7, false)⟩, ⟨some 9, .load 22 (.tmp 8), some (7, false)⟩, ⟨some 10, .call { callee := .builtin .len, args := #[(.tmp 9)], argTypes := #[22] }, some (7, false)⟩, ⟨some 11, .binOp .gtr 3 (.tmp 10) (.const (.int .i64 2000)) 3, some (7, false)⟩, ⟨some 12, .pick (.tmp 7) (.const (.bool true)) (.tmp 11), none⟩, ⟨some 2, .assign (.tmp 12), none⟩])) (.keep [2])) .ret))
attribute [go_sem ↓] c_ref04_Great
def c_ref04_Twin : C := (.seq (.seq (.reg ([⟨some 1, .box 26 (.tmp 0), none⟩, ⟨some 2, .alloc 26, none⟩])) (.keep [1, 2])) (.seq (.seq (.draw ([⟨⟨some 3, .fieldAddr 26 (.tmp 1) 0, none⟩, []⟩, ⟨⟨some 4, .load 24 (.tmp 3), none⟩, []⟩, ⟨⟨some 5, .call { callee := .value (.func 31), args := #[(.tmp 4)], argTypes := #[24] }, none⟩, []⟩, ⟨⟨some 6, .fieldAddr 26 (.tmp 1) 1, none⟩, [0, 1, 2]⟩, ⟨⟨some 7, .load 3 (.tmp 6), none⟩, [0, 1, 2]⟩, ⟨⟨some 8, .fieldAddr 26 (.tmp 1) 2, none⟩, [0, 1, 2, 3, 4]⟩, ⟨⟨some 9, .load 3 (.tmp 8), none⟩, [0, 1, 2, 3, 4]⟩, ⟨⟨some 10, .build 26 #[(0, (.tmp 5)), (1, (.tmp 7)), (2, (.tmp 9))], none⟩, []⟩, ⟨⟨none, .store 26 (.tmp 2) (.tmp 10), none⟩, []⟩])) (.keep [2])) .ret))
attribute [go_sem ↓] c_ref04_Twin
def c_wal_Synced : C := (.seq (.seq (.reg ([⟨some 1, .box 26 (.tmp 0), none⟩, ⟨some 2, .assign (.const (.int .i64 0)), none⟩, ⟨some 3, .assign (.const (.int .i64 0)), none⟩])) (.keep [1])) (.seq (.seq (.reg ([⟨some 7, .load 26 (.tmp 1), none⟩, ⟨some 8, .call { callee := .value (.func 64), args := #[(.tmp 7)], argTypes := #[26] }, none⟩, ⟨some 6, .move (.tmp 8), none⟩, ⟨some 9, .extract (.tmp 6) 0, none⟩, ⟨some 10, .extract (.tmp 6) 1, none⟩, ⟨some 4, .alloc 106, none⟩, ⟨none, .store 106 (.tmp 4) (.tmp 9), none⟩, ⟨some 5, .assign (.tmp 10), none⟩])) (.keep [4, 5])) (.seq (.seq (.seq (.reg ([⟨some 11, .move (.tmp 5), none⟩, ⟨some 12, .binOp .neq 29 (.tmp 11) (.const (.int .i64 0)) 29, none⟩])) (.keep [4, 5, 12])) (.cond (.tmp 12) (.seq (.seq (.reg ([⟨some 13, .move (.tmp 5), none⟩, ⟨some 2, .assign (.const (.int .i64 0)), none⟩, ⟨some 3, .assign (.tmp 13), none⟩])) (.keep [2, 3])) .ret) .skip)) (.seq (.seq (.reg ([⟨some 14, .load 106 (.tmp 4), none⟩, ⟨some 15, .call { callee := .value (.func 65), args := #[(.tmp 14)], argTypes := #[106] }, none⟩, ⟨some 2, .assign (.tmp 15), none⟩, ⟨some 3, .assign (.const (.int .i64 0)), none⟩])) (.keep [2, 3])) .ret))))
attribute [go_sem ↓] c_wal_Synced
def h_wal_Synced : List Hint := [⟨[], [1], []⟩, ⟨[], [4, 5], []⟩, ⟨[], [4, 5, 12], []⟩, ⟨[], [2, 3], []⟩, ⟨[], [2, 3], []⟩]
theorem b_wal_Synced : Body Try.prog 18 [] h_wal_Synced c_wal_Synced 16 [.tmp 2, .tmp 3] := body_of Try.func18 (by kernel_rfl) (by kernel_rfl) (by kernel_rfl) (by kernel_rfl)
def c_ref04_Synced : C := (.seq (.seq (.reg ([⟨some 1, .box 26 (.tmp 0), none⟩, ⟨some 2, .assign (.const (.int .i64 0)), none⟩, ⟨some 3, .assign (.const (.int .i64 0)), none⟩])) (.keep [1])) (.seq (.seq (.seq (.reg ([⟨some 4, .load 26 (.tmp 1), none⟩, ⟨some 5, .call { callee := .value (.func 37), args := #[(.tmp 4)], argTypes := #[26] }, none⟩, ⟨some 6, .binOp .neq 3 (.tmp 5) (.const (.int .i64 0)) 3, none⟩])) (.keep [1, 6])) (.cond (.tmp 6) (.seq (.seq (.reg ([⟨some 7, .load 26 (.tmp 1), none⟩, ⟨some 8, .call { callee := .value (.func 37), args := #[(.tmp 7)], argTypes := #[26] }, none⟩, ⟨some 2, .assign (.const (.int .i64 0)), none⟩, ⟨some 3, .assign (.tmp 8), none⟩])) (.keep [2, 3])) .ret) .skip)) (.seq (.seq (.reg ([⟨some 9, .load 26 (.tmp 1), none⟩, ⟨some 10, .call { callee := .value (.func 66), args := #[(.tmp 9)], argTypes := #[26] }, none⟩, ⟨some 2, .assign (.tmp 10), none⟩, ⟨some 3, .assign (.const (.int .i64 0)), none⟩])) (.keep [2, 3])) .ret)))
attribute [go_sem ↓] c_ref04_Synced
def c_wal_Records : C := (.seq (.seq (.reg ([⟨some 2, .box 26 (.tmp 0), none⟩, ⟨some 4, .assign (.const (.slice none 0 0)), none⟩, ⟨some 5, .assign (.const (.int .i64 0)), none⟩])) (.keep [1, 2])) (.seq (.seq (.reg ([⟨some 9, .load 26 (.tmp 2), none⟩, ⟨some 10, .call { callee := .value (.func 64), args := #[(.tmp 9)], argTypes := #[26] }, none⟩, ⟨some 8, .move (.tmp 10), none⟩, ⟨some 11, .extract (.tmp 8) 0, none⟩, ⟨some 12, .extract (.tmp 8) 1, none⟩, ⟨some 6, .alloc 106, none⟩, ⟨none, .store 106 (.tmp 6) (.tmp 11), none⟩, ⟨some 7, .assign (.tmp 12), none⟩])) (.keep [1, 6, 7])) (.seq (.seq (.seq (.reg ([⟨some 13, .move (.tmp 7), none⟩, ⟨some 14, .binOp .neq 29 (.tmp 13) (.const (.int .i64 0)) 29, none⟩])) (.keep [1, 6, 7, 14])) (.cond (.tmp 14) (.seq (.seq (.reg ([⟨some 15, .move (.tmp 7), none⟩, ⟨some 4, .assign (.const (.slice none 0 0)), none⟩, ⟨some 5, .assign (.tmp 15), none⟩])) (.keep [4, 5])) .ret) .skip)) (.seq (.seq (.seq (.reg ([⟨some 16, .move (.tmp 1), none⟩, ⟨some 17, .fieldAddr 106 (.tmp 6) 0, none⟩, ⟨some 18, .fieldAddr 26 (.tmp 17) 1, none⟩, ⟨some 19, .load 3 (.tmp 18), none⟩, ⟨some 20, .binOp .lss 3 (.tmp 16) (.tmp 19) 3, none⟩, ⟨some 21, .move (.tmp 20), none⟩, ⟨some 22, .move (.tmp 1), some (21, false)⟩, ⟨some 23, .fieldAddr 106 (.tmp 6) 0, some (21, false)⟩, ⟨some 24, .fieldAddr 26 (.tmp 23) 2, some (21, false)⟩, ⟨some 25, .load 3 (.tmp 24), some (21, false)⟩, ⟨some 26, .binOp .gtr 3 (.tmp 22) (.tmp 25) 3, some (21, false)⟩, ⟨some 27, .pick (.tmp 21) (.const (.bool true)) (.tmp 26), none⟩])) (.keep [1, 6, 27])) (.cond (.tmp 27) (.seq (.seq (.reg ([⟨some 4, .assign (.const (.slice none 0 0)), none⟩, ⟨some 5, .assign (.const (.int .i64 2)), none⟩])) (.keep [4, 5])) .ret) .skip)) (.seq (.seq (.reg ([⟨some 28, .fieldAddr 106 (.tmp 6) 1, none⟩, ⟨some 29, .load 34 (.tmp 28), none⟩, ⟨some 30, .move (.tmp 1), none⟩, ⟨some 31, .fieldAddr 106 (.tmp 6) 0, none⟩, ⟨some 32, .fieldAddr 26 (.tmp 31) 1, none⟩, ⟨some 33, .load 3 (.tmp 32), none⟩, ⟨some 34, .binOp .sub 3 (.tmp 30) (.tmp 33) 3, none⟩, ⟨some 35, .slice 34 (.tmp 29) (some (.tmp 34)) none none, none⟩, ⟨some 4, .assign (.tmp 35), none⟩, ⟨some 5, .assign (.const (.int .i64 0)), none⟩])) (.keep [4, 5])) .ret)))))
attribute [go_sem ↓] c_wal_Records
def h_wal_Records : List Hint := [⟨[], [1, 2], []⟩, ⟨[], [1, 6, 7], []⟩, ⟨[], [1, 6, 7, 14], []⟩, ⟨[], [4, 5], []⟩, ⟨[], [1, 6, 27], []⟩, ⟨[], [4, 5], []⟩, ⟨[], [4, 5], []⟩]
theorem b_wal_Records : Body Try.prog 20 [] h_wal_Records c_wal_Records 36 [.tmp 4, .tmp 5] := body_of Try.func20 (by kernel_rfl) (by kernel_rfl) (by kernel_rfl) (by kernel_rfl)
def c_ref04_Records : C := (.seq (.seq (.reg ([⟨some 2, .box 26 (.tmp 0), none⟩, ⟨some 4, .assign (.const (.slice none 0 0)), none⟩, ⟨some 5, .assign (.const (.int .i64 0)), none⟩])) (.keep [1, 2])) (.seq (.seq (.seq (.reg ([⟨some 8, .load 26 (.tmp 2), none⟩, ⟨some 9, .call { callee := .value (.func 37), args := #[(.tmp 8)], argTypes := #[26] }, none⟩, ⟨some 10, .binOp .neq 3 (.tmp 9) (.const (.int .i64 0)) 3, none⟩])) (.keep [1, 2, 10])) (.cond (.tmp 10) (.seq (.seq (.reg ([⟨some 11, .load 26 (.tmp 2), none⟩, ⟨some 12, .call { callee := .value (.func 37), args := #[(.tmp 11)], argTypes := #[26] }, none⟩, ⟨some 4, .assign (.const (.slice none 0 0)), none⟩, ⟨some 5, .assign (.tmp 12), none⟩])) (.keep [4, 5])) .ret) .skip)) (.seq (.seq (.seq (.reg ([⟨some 13, .move (.tmp 1), none⟩, ⟨some 14, .fieldAddr 26 (.tmp 2) 1, none⟩, ⟨some 15, .load 3 (.tmp 14), none⟩, ⟨some 16, .binOp .lss 3 (.tmp 13) (.tmp 15) 3, none⟩, ⟨some 17, .move (.tmp 16), none⟩, ⟨some 18, .move (.tmp 1), some (17, false)⟩, ⟨some 19, .fieldAddr 26 (.tmp 2) 2, some (17, false)⟩, ⟨some 20, .load 3 (.tmp 19), some (17, false)⟩, ⟨some 21, .binOp .gtr 3 (.tmp 18) (.tmp 20) 3, some (17, false)⟩, ⟨some 22, .pick (.tmp 17) (.const (.bool true)) (.tmp 21), none⟩])) (.keep [1, 2, 22])) (.cond (.tmp 22) (.seq (.seq (.reg ([⟨some 4, .assign (.const (.slice none 0 0)), none⟩, ⟨some 5, .assign (.const (.int .i64 2)), none⟩])) (.keep [4, 5])) .ret) .skip)) (.seq (.seq (.reg ([⟨some 24, .fieldAddr 26 (.tmp 2) 0, none⟩, ⟨some 25, .load 24 (.tmp 24), none⟩, ⟨some 26, .call { callee := .value (.func 67), args := #[(.tmp 25)], argTypes := #[24] }, none⟩, ⟨some 23, .move (.tmp 26), none⟩, ⟨some 27, .extract (.tmp 23) 0, none⟩, ⟨some 28, .extract (.tmp 23) 1, none⟩, ⟨some 6, .assign (.tmp 27), none⟩, ⟨some 7, .assign (.tmp 28), none⟩])) (.keep [1, 2, 6])) (.seq (.seq (.reg ([⟨some 29, .move (.tmp 6), none⟩, ⟨some 30, .move (.tmp 1), none⟩, ⟨some 31, .fieldAddr 26 (.tmp 2) 1, none⟩, ⟨some 32, .load 3 (.tmp 31), none⟩, ⟨some 33, .binOp .sub 3 (.tmp 30) (.tmp 32) 3, none⟩, ⟨some 34, .slice 34 (.tmp 29) (some (.tmp 33)) none none, none⟩, ⟨some 4, .assign (.tmp 34), none⟩, ⟨some 5, .assign (.const (.int .i64 0)), none⟩])) (.keep [4, 5])) .ret)))))
attribute [go_sem ↓] c_ref04_Records
def r_wal_Open_0 : List I := [⟨some 14, .binOp .neq 29 (.tmp 13) (.const (.int .i64 0)) 29, none⟩]
@[go_sem ↓] def ur_wal_Open_0 := @unI _ _ r_wal_Open_0.eq_1
def c_wal_Open_1 : C := (.seq (.seq (.reg ([⟨some 15, .build 26 #[], none⟩, ⟨none, .store 26 (.tmp 4) (.tmp 15), none⟩, ⟨some 5, .assign (.const (.int .i64 8)), none⟩])) (.keep [4, 5])) .ret)
@[go_sem ↓] def uc_wal_Open_1 := @unC _ _ c_wal_Open_1.eq_1
def c_wal_Open_2 : C := (.cond (.tmp 14) c_wal_Open_1 .skip)
@[go_sem ↓] def uc_wal_Open_2 := @unC _ _ c_wal_Open_2.eq_1
def c_wal_Open_3 : C := (.seq (.seq (.reg ([⟨some 22, .build 26 #[], none⟩, ⟨none, .store 26 (.tmp 4) (.tmp 22), none⟩, ⟨some 5, .assign (.const (.int .i64 2)), none⟩])) (.keep [4, 5])) .ret)
@[go_sem ↓] def uc_wal_Open_3 := @unC _ _ c_wal_Open_3.eq_1
def c_wal_Open_4 : C := (.cond (.tmp 21) c_wal_Open_3 .skip)
@[go_sem ↓] def uc_wal_Open_4 := @unC _ _ c_wal_Open_4.eq_1
def r_wal_Open_5 : List I := [⟨some 25, .move (.tmp 27), none⟩, ⟨some 28, .extract (.tmp 25) 0, none⟩, ⟨some 29, .extract (.tmp 25) 1, none⟩, ⟨none, .store 24 (.tmp 2) (.tmp 28), none⟩]
@[go_sem ↓] def ur_wal_Open_5 := @unI _ _ r_wal_Open_5.eq_1
def c_wal_Open_6 : C := (.seq (.reg (⟨some 26, .load 24 (.tmp 2), none⟩ :: ⟨some 27, .call { callee := .value (.func 72), args := #[(.tmp 26)], argTypes := #[24] }, none⟩ :: r_wal_Open_5)) (.keep [1, 2, 4]))
@[go_sem ↓] def uc_wal_Open_6 := @unC _ _ c_wal_Open_6.eq_1
def c_wal_Open_7 : C := (.cond (.tmp 24) c_wal_Open_6 .skip)
@[go_sem ↓] def uc_wal_Open_7 := @unC _ _ c_wal_Open_7.eq_1
def r_wal_Open_8 : List I := [⟨some 30, .move (.tmp 33), none⟩, ⟨some 34, .extract (.tmp 30) 0, none⟩, ⟨some 35, .extract (.tmp 30) 1, none⟩, ⟨some 36, .extract (.tmp 30) 2, none⟩, ⟨some 6, .assign (.tmp 34), none⟩, ⟨some 7, .assign (.tmp 35), none⟩, ⟨some 8, .assign (.tmp 36), none⟩]
@[go_sem ↓] def ur_wal_Open_8 := @unI _ _ r_wal_Open_8.eq_1
def r_wal_Open_9 : List I := ⟨some 33, .call { callee := .value (.func 75), args := #[(.tmp 32)], argTypes := #[22] }, none⟩ :: r_wal_Open_8
@[go_sem ↓] def ur_wal_Open_9 := @unI _ _ r_wal_Open_9.eq_1
def c_wal_Open_10 : C := (.seq (.draw ([⟨⟨some 54, .move (.tmp 6), none⟩, []⟩, ⟨⟨some 55, .indexAddr 34 (.tmp 54) (.const (.int .i64 0)), none⟩, []⟩, ⟨⟨some 56, .fieldAddr 100 (.tmp 55) 0, none⟩, []⟩, ⟨⟨some 57, .load 3 (.tmp 56), none⟩, []⟩, ⟨⟨some 58, .move (.tmp 6), none⟩, [0, 1, 2, 3]⟩, ⟨⟨some 59, .move (.tmp 11), none⟩, [0, 1, 2, 3, 4]⟩, ⟨⟨some 60, .binOp .sub 3 (.tmp 59) (.const (.int .i64 1)) 3, none⟩, [0, 1, 2, 3, 4]⟩, ⟨⟨some 61, .indexAddr 34 (.tmp 58) (.tmp 60), none⟩, [0, 1, 2, 3]⟩, ⟨⟨some 62, .fieldAddr 100 (.tmp 61) 0, none⟩, [0, 1, 2, 3]⟩, ⟨⟨some 63, .load 3 (.tmp 62), none⟩, [0, 1, 2, 3]⟩, ⟨⟨some 64, .binOp .add 3 (.tmp 63) (.const (.int .i64 1)) 3, none⟩, [0, 1, 2, 3]⟩, ⟨⟨some 9, .assign (.tmp 57), none⟩, [4, 5, 6, 7, 8, 9, 10]⟩, ⟨⟨some 10, .assign (.tmp 64), none⟩, []⟩])) (.keep [2, 4, 7, 9, 10]))
@[go_sem ↓] def uc_wal_Open_10 := @unC _ _ c_wal_Open_10.eq_1
def c_wal_Open_11 : C := (.seq (.reg ([⟨some 7, .assign (.const (.int .i64 0)), none⟩])) (.keep [2, 4, 7, 9, 10]))
@[go_sem ↓] def uc_wal_Open_11 := @unC _ _ c_wal_Open_11.eq_1
def c_wal_Open_12 : C := (.cond (.tmp 53) c_wal_Open_10 c_wal_Open_11)
@[go_sem ↓] def uc_wal_Open_12 := @unC _ _ c_wal_Open_12.eq_1
def c_wal_Open_13 : C := (.seq (.seq (.reg ([⟨some 41, .move (.tmp 11), none⟩, ⟨some 42, .binOp .gtr 3 (.tmp 41) (.const (.int .i64 0)) 3, none⟩, ⟨some 43, .move (.tmp 42), none⟩, ⟨some 44, .move (.tmp 6), some (43, true)⟩, ⟨some 45, .move (.tmp 11), some (43, true)⟩, ⟨some 46, .binOp .sub 3 (.tmp 45) (.const (.int .i64 1)) 3, some (43, true)⟩, ⟨some 47, .indexAddr 34 (.tmp 44) (.tmp 46), some (43, true)⟩, ⟨some 48, .fieldAddr 100 (.tmp 47) 0, some (43, true)⟩, ⟨some 49, .load 3 (.tmp 48), some (43, true)⟩, ⟨some 50, .move (.tmp 1), some (43, true)⟩, ⟨some 51, .binOp .sub 3 (.tmp 50) (.const (.int .i64 1)) 3, some (43, true)⟩, ⟨some 52, .binOp .geq 3 (.tmp 49) (.tmp 51) 3, some (43, true)⟩, ⟨some 53, .pick (.tmp 43) (.tmp 52) (.const (.bool false)), none⟩])) (.keep [2, 4, 6, 7, 9, 10, 11, 53])) c_wal_Open_12)
@[go_sem ↓] def uc_wal_Open_13 := @unC _ _ c_wal_Open_13.eq_1
def r_wal_Open_14 : List I := [⟨some 65, .move (.tmp 68), none⟩, ⟨some 69, .extract (.tmp 65) 0, none⟩, ⟨some 70, .extract (.tmp 65) 1, none⟩, ⟨none, .store 24 (.tmp 2) (.tmp 69), none⟩]
@[go_sem ↓] def ur_wal_Open_14 := @unI _ _ r_wal_Open_14.eq_1
def r_wal_Open_15 : List I := [⟨some 71, .move (.tmp 73), none⟩, ⟨some 74, .extract (.tmp 71) 0, none⟩, ⟨some 75, .extract (.tmp 71) 1, none⟩, ⟨none, .store 24 (.tmp 2) (.tmp 74), none⟩]
@[go_sem ↓] def ur_wal_Open_15 := @unI _ _ r_wal_Open_15.eq_1
def c_wal_Open_16 : C := (.seq (.seq (.reg ([⟨some 76, .load 24 (.tmp 2), none⟩, ⟨some 77, .move (.tmp 9), none⟩, ⟨some 78, .move (.tmp 10), none⟩, ⟨some 79, .build 26 #[(0, (.tmp 76)), (1, (.tmp 77)), (2, (.tmp 78))], none⟩, ⟨none, .store 26 (.tmp 4) (.tmp 79), none⟩, ⟨some 5, .assign (.const (.int .i64 0)), none⟩])) (.keep [4, 5])) .ret)
@[go_sem ↓] def uc_wal_Open_16 := @unC _ _ c_wal_Open_16.eq_1
def c_wal_Open_17 : C := (.seq (.seq (.reg (⟨some 72, .load 24 (.tmp 2), none⟩ :: ⟨some 73, .call { callee := .value (.func 73), args := #[(.tmp 72)], argTypes := #[24] }, none⟩ :: r_wal_Open_15)) (.keep [2, 4, 9, 10])) c_wal_Open_16)
@[go_sem ↓] def uc_wal_Open_17 := @unC _ _ c_wal_Open_17.eq_1
def c_wal_Open_18 : C := (.seq (.seq (.reg (⟨some 66, .load 24 (.tmp 2), none⟩ :: ⟨some 67, .move (.tmp 7), none⟩ :: ⟨some 68, .call { callee := .value (.func 77), args := #[(.tmp 66), (.tmp 67)], argTypes := #[24, 3] }, none⟩ :: r_wal_Open_14)) (.keep [2, 4, 9, 10])) c_wal_Open_17)
@[go_sem ↓] def uc_wal_Open_18 := @unC _ _ c_wal_Open_18.eq_1
def c_wal_Open_19 : C := (.seq (.seq (.seq (.reg ([⟨some 39, .move (.tmp 6), none⟩, ⟨some 40, .call { callee := .builtin .len, args := #[(.tmp 39)], argTypes := #[34] }, none⟩, ⟨some 11, .assign (.tmp 40), none⟩])) (.keep [1, 2, 4, 6, 7, 9, 10, 11])) c_wal_Open_13) c_wal_Open_18)
@[go_sem ↓] def uc_wal_Open_19 := @unC _ _ c_wal_Open_19.eq_1
def c_wal_Open_20 : C := (.seq (.seq (.reg ([⟨some 37, .move (.tmp 1), none⟩, ⟨some 38, .move (.tmp 1), none⟩, ⟨some 9, .assign (.tmp 37), none⟩, ⟨some 10, .assign (.tmp 38), none⟩])) (.keep [1, 2, 4, 6, 7, 9, 10])) c_wal_Open_19)
@[go_sem ↓] def uc_wal_Open_20 := @unC _ _ c_wal_Open_20.eq_1
def c_wal_Open_21 : C := (.seq (.seq (.reg (⟨some 31, .load 24 (.tmp 2), none⟩ :: ⟨some 32, .call { callee := .value (.func 76), args := #[(.tmp 31)], argTypes := #[24] }, none⟩ :: r_wal_Open_9)) (.keep [1, 2, 4, 6, 7])) c_wal_Open_20)
@[go_sem ↓] def uc_wal_Open_21 := @unC _ _ c_wal_Open_21.eq_1
def c_wal_Open_22 : C := (.seq (.seq (.seq (.reg ([⟨some 23, .fieldAddr 24 (.tmp 2) 3, none⟩, ⟨some 24, .load 4 (.tmp 23), none⟩])) (.keep [1, 2, 4, 24])) c_wal_Open_7) c_wal_Open_21)
@[go_sem ↓] def uc_wal_Open_22 := @unC _ _ c_wal_Open_22.eq_1
def c_wal_Open_23 : C := (.seq (.seq (.seq (.reg ([⟨some 16, .move (.tmp 1), none⟩, ⟨some 17, .binOp .lss 3 (.tmp 16) (.const (.int .i64 0)) 3, none⟩, ⟨some 18, .move (.tmp 17), none⟩, ⟨some 19, .move (.tmp 1), some (18, false)⟩, ⟨some 20, .binOp .gtr 3 (.tmp 19) (.const (.int .i64 1000000000)) 3, some (18, false)⟩, ⟨some 21, .pick (.tmp 18) (.const (.bool true)) (.tmp 20), none⟩])) (.keep [1, 2, 4, 21])) c_wal_Open_4) c_wal_Open_22)
@[go_sem ↓] def uc_wal_Open_23 := @unC _ _ c_wal_Open_23.eq_1
def c_wal_Open_24 : C := (.seq (.seq (.seq (.reg (⟨some 12, .load 24 (.tmp 2), none⟩ :: ⟨some 13, .call { callee := .value (.func 71), args := #[(.tmp 12)], argTypes := #[24] }, none⟩ :: r_wal_Open_0)) (.keep [1, 2, 4, 14])) c_wal_Open_2) c_wal_Open_23)
@[go_sem ↓] def uc_wal_Open_24 := @unC _ _ c_wal_Open_24.eq_1
def c_wal_Open : C := (.seq (.seq (.reg ([⟨some 2, .box 24 (.tmp 0), none⟩, ⟨some 4, .alloc 26, none⟩, ⟨some 5, .assign (.const (.int .i64 0)), none⟩])) (.keep [1, 2, 4])) c_wal_Open_24)
attribute [go_sem ↓] c_wal_Open
def h_wal_Open : List Hint := [⟨[], [1, 2, 4], []⟩, ⟨[], [1, 2, 4, 14], []⟩, ⟨[], [4, 5], []⟩, ⟨[], [1, 2, 4, 21], []⟩, ⟨[], [4, 5], []⟩, ⟨[], [1, 2, 4, 24], []⟩, ⟨[], [1, 2, 4], []⟩, ⟨[], [1, 2, 4, 6, 7], []⟩, ⟨[], [1, 2, 4, 6, 7, 9, 10], []⟩, ⟨[], [1, 2, 4, 6, 7, 9, 10, 11], []⟩, ⟨[], [2, 4, 6, 7, 9, 10, 11, 53], []⟩, ⟨[], [2, 4, 7, 9, 10], []⟩, ⟨[], [2, 4, 7, 9, 10], []⟩, ⟨[], [2, 4, 9, 10], []⟩, ⟨[], [2, 4, 9, 10], []⟩, ⟨[], [4, 5], []⟩]
theorem b_wal_Open : Body Try.prog 32 [] h_wal_Open c_wal_Open 80 [.cell 4 26, .tmp 5] := body_of Try.func32 (by kernel_rfl) (by kernel_rfl) (by kernel_rfl) (by kernel_rfl)
def r_ref04_Open_0 : List I := [⟨some 11, .binOp .neq 3 (.tmp 10) (.const (.int .i64 0)) 3, none⟩]
@[go_sem ↓] def ur_ref04_Open_0 := @unI _ _ r_ref04_Open_0.eq_1
def c_ref04_Open_1 : C := (.seq (.seq (.reg ([⟨some 12, .build 26 #[], none⟩, ⟨none, .store 26 (.tmp 4) (.tmp 12), none⟩, ⟨some 5, .assign (.const (.int .i64 8)), none⟩])) (.keep [4, 5])) .ret)
@[go_sem ↓] def uc_ref04_Open_1 := @unC _ _ c_ref04_Open_1.eq_1
def c_ref04_Open_2 : C := (.cond (.tmp 11) c_ref04_Open_1 .skip)
@[go_sem ↓] def uc_ref04_Open_2 := @unC _ _ c_ref04_Open_2.eq_1
def c_ref04_Open_3 : C := (.seq (.seq (.reg ([⟨some 19, .build 26 #[], none⟩, ⟨none, .store 26 (.tmp 4) (.tmp 19), none⟩, ⟨some 5, .assign (.const (.int .i64 2)), none⟩])) (.keep [4, 5])) .ret)
@[go_sem ↓] def uc_ref04_Open_3 := @unC _ _ c_ref04_Open_3.eq_1
def c_ref04_Open_4 : C := (.cond (.tmp 18) c_ref04_Open_3 .skip)
@[go_sem ↓] def uc_ref04_Open_4 := @unC _ _ c_ref04_Open_4.eq_1
def r_ref04_Open_5 : List I := [⟨some 20, .move (.tmp 22), none⟩, ⟨some 23, .extract (.tmp 20) 0, none⟩, ⟨some 24, .extract (.tmp 20) 1, none⟩, ⟨some 6, .assign (.tmp 23), none⟩, ⟨some 7, .assign (.tmp 24), none⟩]
@[go_sem ↓] def ur_ref04_Open_5 := @unI _ _ r_ref04_Open_5.eq_1
def c_ref04_Open_6 : C := (.seq (.seq (.reg ([⟨some 40, .fieldAddr 24 (.tmp 2) 2, none⟩, ⟨some 41, .load 3 (.tmp 40), none⟩, ⟨some 42, .build 24 #[(2, (.tmp 41))], none⟩, ⟨some 43, .move (.tmp 1), none⟩, ⟨some 44, .move (.tmp 1), none⟩, ⟨some 45, .build 26 #[(0, (.tmp 42)), (1, (.tmp 43)), (2, (.tmp 44))], none⟩, ⟨none, .store 26 (.tmp 4) (.tmp 45), none⟩, ⟨some 5, .assign (.const (.int .i64 0)), none⟩])) (.keep [4, 5])) .ret)
@[go_sem ↓] def uc_ref04_Open_6 := @unC _ _ c_ref04_Open_6.eq_1
def c_ref04_Open_7 : C := (.cond (.tmp 39) c_ref04_Open_6 .skip)
@[go_sem ↓] def uc_ref04_Open_7 := @unC _ _ c_ref04_Open_7.eq_1
def d_ref04_Open_8 : List D := [⟨⟨some 48, .move (.tmp 7), none⟩, [0, 1]⟩, ⟨⟨some 49, .slice 22 (.tmp 47) none (some (.tmp 48)) none, none⟩, []⟩, ⟨⟨some 50, .fieldAddr 24 (.tmp 2) 2, none⟩, [0, 1, 2, 3]⟩, ⟨⟨some 51, .load 3 (.tmp 50), none⟩, [0, 1, 2, 3]⟩, ⟨⟨some 52, .build 24 #[(0, (.tmp 49)), (2, (.tmp 51))], none⟩, []⟩, ⟨⟨some 8, .alloc 24, none⟩, [0, 1, 2, 3, 4, 5, 6]⟩, ⟨⟨none, .store 24 (.tmp 8) (.tmp 52), none⟩, []⟩]
@[go_sem ↓] def ud_ref04_Open_8 := @unD _ _ d_ref04_Open_8.eq_1
def c_ref04_Open_9 : C := (.seq (.seq (.draw ([⟨⟨some 53, .load 24 (.tmp 8), none⟩, []⟩, ⟨⟨some 54, .move (.tmp 6), none⟩, [0]⟩, ⟨⟨some 55, .indexAddr 34 (.tmp 54) (.const (.int .i64 0)), none⟩, [0]⟩, ⟨⟨some 56, .fieldAddr 100 (.tmp 55) 0, none⟩, [0]⟩, ⟨⟨some 57, .load 3 (.tmp 56), none⟩, [0]⟩, ⟨⟨some 58, .move (.tmp 6), none⟩, [0, 1, 2, 3, 4]⟩, ⟨⟨some 59, .move (.tmp 6), none⟩, [0, 1, 2, 3, 4, 5]⟩, ⟨⟨some 60, .call { callee := .builtin .len, args := #[(.tmp 59)], argTypes := #[34] }, none⟩, [0, 1, 2, 3, 4, 5]⟩, ⟨⟨some 61, .binOp .sub 3 (.tmp 60) (.const (.int .i64 1)) 3, none⟩, [0, 1, 2, 3, 4, 5]⟩, ⟨⟨some 62, .indexAddr 34 (.tmp 58) (.tmp 61), none⟩, [0, 1, 2, 3, 4]⟩, ⟨⟨some 63, .fieldAddr 100 (.tmp 62) 0, none⟩, [0, 1, 2, 3, 4]⟩, ⟨⟨some 64, .load 3 (.tmp 63), none⟩, [0, 1, 2, 3, 4]⟩, ⟨⟨some 65, .binOp .add 3 (.tmp 64) (.const (.int .i64 1)) 3, none⟩, [0, 1, 2, 3, 4]⟩, ⟨⟨some 66, .build 26 #[(0, (.tmp 53)), (1, (.tmp 57)), (2, (.tmp 65))], none⟩, []⟩, ⟨⟨none, .store 26 (.tmp 4) (.tmp 66), none⟩, []⟩, ⟨⟨some 5, .assign (.const (.int .i64 0)), none⟩, []⟩])) (.keep [4, 5])) .ret)
@[go_sem ↓] def uc_ref04_Open_9 := @unC _ _ c_ref04_Open_9.eq_1
def c_ref04_Open_10 : C := (.seq (.seq (.draw (⟨⟨some 46, .load 24 (.tmp 2), none⟩, []⟩ :: ⟨⟨some 47, .call { callee := .value (.func 60), args := #[(.tmp 46)], argTypes := #[24] }, none⟩, []⟩ :: d_ref04_Open_8)) (.keep [4, 6, 8])) c_ref04_Open_9)
@[go_sem ↓] def uc_ref04_Open_10 := @unC _ _ c_ref04_Open_10.eq_1
def c_ref04_Open_11 : C := (.seq (.seq (.seq (.reg ([⟨some 25, .move (.tmp 6), none⟩, ⟨some 26, .call { callee := .builtin .len, args := #[(.tmp 25)], argTypes := #[34] }, none⟩, ⟨some 27, .binOp .eql 3 (.tmp 26) (.const (.int .i64 0)) 3, none⟩, ⟨some 28, .move (.tmp 27), none⟩, ⟨some 29, .move (.tmp 6), some (28, false)⟩, ⟨some 30, .move (.tmp 6), some (28, false)⟩, ⟨some 31, .call { callee := .builtin .len, args := #[(.tmp 30)], argTypes := #[34] }, some (28, false)⟩, ⟨some 32, .binOp .sub 3 (.tmp 31) (.const (.int .i64 1)) 3, some (28, false)⟩, ⟨some 33, .indexAddr 34 (.tmp 29) (.tmp 32), some (28, false)⟩, ⟨some 34, .fieldAddr 100 (.tmp 33) 0, some (28, false)⟩, ⟨some 35, .load 3 (.tmp 34), some (28, false)⟩, ⟨some 36, .move (.tmp 1), some (28, false)⟩, ⟨some 37, .binOp .sub 3 (.tmp 36) (.const (.int .i64 1)) 3, some (28, false)⟩, ⟨some 38, .binOp .lss 3 (.tmp 35) (.tmp 37) 3, some (28, false)⟩, ⟨some 39, .pick (.tmp 28) (.const (.bool true)) (.tmp 38), none⟩])) (.keep [1, 2, 4, 6, 7, 39])) c_ref04_Open_7) c_ref04_Open_10)
@[go_sem ↓] def uc_ref04_Open_11 := @unC _ _ c_ref04_Open_11.eq_1
def c_ref04_Open_12 : C := (.seq (.seq (.reg (⟨some 21, .load 24 (.tmp 2), none⟩ :: ⟨some 22, .call { callee := .value (.func 67), args := #[(.tmp 21)], argTypes := #[24] }, none⟩ :: r_ref04_Open_5)) (.keep [1, 2, 4, 6, 7])) c_ref04_Open_11)
@[go_sem ↓] def uc_ref04_Open_12 := @unC _ _ c_ref04_Open_12.eq_1
def c_ref04_Open_13 : C := (.seq (.seq (.seq (.reg ([⟨some 13, .move (.tmp 1), none⟩, ⟨some 14, .binOp .lss 3 (.tmp 13) (.const (.int .i64 0)) 3, none⟩, ⟨some 15, .move (.tmp 14), none⟩, ⟨some 16, .move (.tmp 1), some (15, false)⟩, ⟨some 17, .binOp .gtr 3 (.tmp 16) (.const (.int .i64 1000000000)) 3, some (15, false)⟩, ⟨some 18, .pick (.tmp 15) (.const (.bool true)) (.tmp 17), none⟩])) (.keep [1, 2, 4, 18])) c_ref04_Open_4) c_ref04_Open_12)
@[go_sem ↓] def uc_ref04_Open_13 := @unC _ _ c_ref04_Open_13.eq_1
def c_ref04_Open_14 : C := (.seq (.seq (.seq (.reg (⟨some 9, .load 24 (.tmp 2), none⟩ :: ⟨some 10, .call { callee := .value (.func 74), args := #[(.tmp 9)], argTypes := #[24] }, none⟩ :: r_ref04_Open_0)) (.keep [1, 2, 4, 11])) c_ref04_Open_2) c_ref04_Open_13)
@[go_sem ↓] def uc_ref04_Open_14 := @unC _ _ c_ref04_Open_14.eq_1
def c_ref04_Open : C := (.seq (.seq (.reg ([⟨some 2, .box 24 (.tmp 0), none⟩, ⟨some 4, .alloc 26, none⟩, ⟨some 5, .assign (.const (.int .i64 0)), none⟩])) (.keep [1, 2, 4])) c_ref04_Open_14)
attribute [go_sem ↓] c_ref04_Open
def c_wal_Crash : C := (.seq (.seq (.reg ([⟨some 2, .box 26 (.tmp 0), none⟩, ⟨some 4, .alloc 24, none⟩, ⟨some 5, .assign (.const (.int .i64 0)), none⟩])) (.keep [1, 2, 4])) (.seq (.seq (.reg ([⟨some 9, .load 26 (.tmp 2), none⟩, ⟨some 10, .call { callee := .value (.func 64), args := #[(.tmp 9)], argTypes := #[26] }, none⟩, ⟨some 8, .move (.tmp 10), none⟩, ⟨some 11, .extract (.tmp 8) 0, none⟩, ⟨some 12, .extract (.tmp 8) 1, none⟩, ⟨some 6, .alloc 106, none⟩, ⟨none, .store 106 (.tmp 6) (.tmp 11), none⟩, ⟨some 7, .assign (.tmp 12), none⟩])) (.keep [1, 4, 6, 7])) (.seq (.seq (.seq (.reg ([⟨some 13, .move (.tmp 7), none⟩, ⟨some 14, .binOp .neq 29 (.tmp 13) (.const (.int .i64 0)) 29, none⟩])) (.keep [1, 4, 6, 7, 14])) (.cond (.tmp 14) (.seq (.seq (.reg ([⟨some 15, .build 24 #[], none⟩, ⟨some 16, .move (.tmp 7), none⟩, ⟨none, .store 24 (.tmp 4) (.tmp 15), none⟩, ⟨some 5, .assign (.tmp 16), none⟩])) (.keep [4, 5])) .ret) .skip)) (.seq (.seq (.reg ([⟨some 17, .fieldAddr 106 (.tmp 6) 0, none⟩, ⟨some 18, .fieldAddr 26 (.tmp 17) 0, none⟩, ⟨some 19, .load 24 (.tmp 18), none⟩, ⟨some 20, .move (.tmp 1), none⟩, ⟨some 21, .call { callee := .value (.func 78), args := #[(.tmp 19), (.tmp 20)], argTypes := #[24, 3] }, none⟩, ⟨some 22, .extract (.tmp 21) 0, none⟩, ⟨some 23, .extract (.tmp 21) 1, none⟩, ⟨none, .store 24 (.tmp 4) (.tmp 22), none⟩, ⟨some 5, .assign (.tmp 23), none⟩])) (.keep [4, 5])) .ret))))
attribute [go_sem ↓] c_wal_Crash
def h_wal_Crash : List Hint := [⟨[], [1, 2, 4], []⟩, ⟨[], [1, 4, 6, 7], []⟩, ⟨[], [1, 4, 6, 7, 14], []⟩, ⟨[], [4, 5], []⟩, ⟨[], [4, 5], []⟩]
theorem b_wal_Crash : Body Try.prog 34 [] h_wal_Crash c_wal_Crash 24 [.cell 4 24, .tmp 5] := body_of Try.func34 (by kernel_rfl) (by kernel_rfl) (by kernel_rfl) (by kernel_rfl)
def c_ref04_Crash : C := (.seq (.seq (.reg ([⟨some 2, .box 26 (.tmp 0), none⟩, ⟨some 4, .alloc 24, none⟩, ⟨some 5, .assign (.const (.int .i64 0)), none⟩])) (.keep [1, 2, 4])) (.seq (.seq (.seq (.reg ([⟨some 6, .load 26 (.tmp 2), none⟩, ⟨some 7, .call { callee := .value (.func 37), args := #[(.tmp 6)], argTypes := #[26] }, none⟩, ⟨some 8, .binOp .neq 3 (.tmp 7) (.const (.int .i64 0)) 3, none⟩])) (.keep [1, 2, 4, 8])) (.cond (.tmp 8) (.seq (.seq (.reg ([⟨some 9, .build 24 #[], none⟩, ⟨some 10, .load 26 (.tmp 2), none⟩, ⟨some 11, .call { callee := .value (.func 37), args := #[(.tmp 10)], argTypes := #[26] }, none⟩, ⟨none, .store 24 (.tmp 4) (.tmp 9), none⟩, ⟨some 5, .assign (.tmp 11), none⟩])) (.keep [4, 5])) .ret) .skip)) (.seq (.seq (.reg ([⟨some 12, .fieldAddr 26 (.tmp 2) 0, none⟩, ⟨some 13, .load 24 (.tmp 12), none⟩, ⟨some 14, .move (.tmp 1), none⟩, ⟨some 15, .call { callee := .value (.func 79), args := #[(.tmp 13), (.tmp 14)], argTypes := #[24, 3] }, none⟩, ⟨some 16, .extract (.tmp 15) 0, none⟩, ⟨some 17, .extract (.tmp 15) 1, none⟩, ⟨none, .store 24 (.tmp 4) (.tmp 16), none⟩, ⟨some 5, .assign (.tmp 17), none⟩])) (.keep [4, 5])) .ret)))
attribute [go_sem ↓] c_ref04_Crash
def c_wal_Check : C := (.seq (.seq (.reg ([⟨some 1, .box 26 (.tmp 0), none⟩, ⟨some 2, .assign (.const (.int .i64 0)), none⟩])) (.keep [1])) (.seq (.seq (.reg ([⟨some 6, .load 26 (.tmp 1), none⟩, ⟨some 7, .call { callee := .value (.func 64), args := #[(.tmp 6)], argTypes := #[26] }, none⟩, ⟨some 5, .move (.tmp 7), none⟩, ⟨some 8, .extract (.tmp 5) 0, none⟩, ⟨some 9, .extract (.tmp 5) 1, none⟩, ⟨some 3, .alloc 106, none⟩, ⟨none, .store 106 (.tmp 3) (.tmp 8), none⟩, ⟨some 4, .assign (.tmp 9), none⟩])) (.keep [4])) (.seq (.seq (.reg ([⟨some 10, .move (.tmp 4), none⟩, ⟨some 2, .assign (.tmp 10), none⟩])) (.keep [2])) .ret)))
attribute [go_sem ↓] c_wal_Check
def h_wal_Check : List Hint := [⟨[], [1], []⟩, ⟨[], [4], []⟩, ⟨[], [2], []⟩]
theorem b_wal_Check : Body Try.prog 36 [] h_wal_Check c_wal_Check 11 [.tmp 2] := body_of Try.func36 (by kernel_rfl) (by kernel_rfl) (by kernel_rfl) (by kernel_rfl)
def c_ref04_Check : C := (.seq (.seq (.reg ([⟨some 1, .box 26 (.tmp 0), none⟩, ⟨some 2, .assign (.const (.int .i64 0)), none⟩])) (.keep [1])) (.seq (.seq (.seq (.reg ([⟨some 5, .fieldAddr 26 (.tmp 1) 0, none⟩, ⟨some 6, .load 24 (.tmp 5), none⟩, ⟨some 7, .call { callee := .value (.func 80), args := #[(.tmp 6)], argTypes := #[24] }, none⟩, ⟨some 8, .binOp .neq 3 (.tmp 7) (.const (.int .i64 0)) 3, none⟩])) (.keep [1, 8])) (.cond (.tmp 8) (.seq (.seq (.reg ([⟨some 2, .assign (.const (.int .i64 8)), none⟩])) (.keep [2])) .ret) .skip)) (.seq (.seq (.reg ([⟨some 10, .fieldAddr 26 (.tmp 1) 0, none⟩, ⟨some 11, .load 24 (.tmp 10), none⟩, ⟨some 12, .call { callee := .value (.func 67), args := #[(.tmp 11)], argTypes := #[24] }, none⟩, ⟨some 9, .move (.tmp 12), none⟩, ⟨some 13, .extract (.tmp 9) 0, none⟩, ⟨some 14, .extract (.tmp 9) 1, none⟩, ⟨some 3, .assign (.tmp 13), none⟩, ⟨some 4, .assign (.tmp 14), none⟩])) (.keep [1, 3, 4])) (.seq (.seq (.seq (.reg ([⟨some 15, .move (.tmp 4), none⟩, ⟨some 16, .fieldAddr 26 (.tmp 1) 0, none⟩, ⟨some 17, .load 24 (.tmp 16), none⟩, ⟨some 18, .call { callee := .value (.func 60), args := #[(.tmp 17)], argTypes := #[24] }, none⟩, ⟨some 19, .call { callee := .builtin .len, args := #[(.tmp 18)], argTypes := #[22] }, none⟩, ⟨some 20, .binOp .neq 3 (.tmp 15) (.tmp 19) 3, none⟩])) (.keep [1, 3, 20])) (.cond (.tmp 20) (.seq (.seq (.reg ([⟨some 2, .assign (.const (.int .i64 8)), none⟩])) (.keep [2])) .ret) .skip)) (.seq (.seq (.seq (.reg ([⟨some 21, .move (.tmp 3), none⟩, ⟨some 22, .call { callee := .builtin .len, args := #[(.tmp 21)], argTypes := #[34] }, none⟩, ⟨some 23, .binOp .eql 3 (.tmp 22) (.const (.int .i64 0)) 3, none⟩])) (.keep [1, 3, 23])) (.cond (.tmp 23) (.seq (.seq (.seq (.reg ([⟨some 24, .fieldAddr 26 (.tmp 1) 1, none⟩, ⟨some 25, .load 3 (.tmp 24), none⟩, ⟨some 26, .fieldAddr 26 (.tmp 1) 2, none⟩, ⟨some 27, .load 3 (.tmp 26), none⟩, ⟨some 28, .binOp .neq 3 (.tmp 25) (.tmp 27) 3, none⟩, ⟨some 29, .move (.tmp 28), none⟩, ⟨some 30, .fieldAddr 26 (.tmp 1) 1, some (29, false)⟩, ⟨some 31, .load 3 (.tmp 30), some (29, false)⟩, ⟨some 32, .binOp .lss 3 (.tmp 31) (.const (.int .i64 0)) 3, some (29, false)⟩, ⟨some 33, .pick (.tmp 29) (.const (.bool true)) (.tmp 32), none⟩, ⟨some 34, .move (.tmp 33), none⟩, ⟨some 35, .fieldAddr 26 (.tmp 1) 1, some (34, false)⟩, ⟨some 36, .load 3 (.tmp 35), some (34, false)⟩, ⟨some 37, .binOp .gtr 3 (.tmp 36) (.const (.int .i64 1000000001)) 3, some (34, false)⟩, ⟨some 38, .pick (.tmp 34) (.const (.bool true)) (.tmp 37), none⟩])) (.keep [38])) (.cond (.tmp 38) (.seq (.seq (.reg ([⟨some 2, .assign (.const (.int .i64 8)), none⟩])) (.keep [2])) .ret) .skip)) (.seq (.seq (.reg ([⟨some 2, .assign (.const (.int .i64 0)), none⟩])) (.keep [2])) .ret)) .skip)) (.seq (.seq (.seq (.draw ([⟨⟨some 39, .fieldAddr 26 (.tmp 1) 1, none⟩, []⟩, ⟨⟨some 40, .load 3 (.tmp 39), none⟩, []⟩, ⟨⟨some 41, .move (.tmp 3), none⟩, [0, 1]⟩, ⟨⟨some 42, .indexAddr 34 (.tmp 41) (.const (.int .i64 0)), none⟩, [0, 1]⟩, ⟨⟨some 43, .fieldAddr 100 (.tmp 42) 0, none⟩, [0, 1]⟩, ⟨⟨some 44, .load 3 (.tmp 43), none⟩, [0, 1]⟩, ⟨⟨some 45, .binOp .neq 3 (.tmp 40) (.tmp 44) 3, none⟩, []⟩, ⟨⟨some 46, .move (.tmp 45), none⟩, []⟩, ⟨⟨some 47, .fieldAddr 26 (.tmp 1) 2, some (46, false)⟩, []⟩, ⟨⟨some 48, .load 3 (.tmp 47), some (46, false)⟩, []⟩, ⟨⟨some 49, .move (.tmp 3), some (46, false)⟩, [8, 9]⟩, ⟨⟨some 50, .move (.tmp 3), some (46, false)⟩, [8, 9, 10]⟩, ⟨⟨some 51, .call { callee := .builtin .len, args := #[(.tmp 50)], argTypes := #[34] }, some (46, false)⟩, [8, 9, 10]⟩, ⟨⟨some 52, .binOp .sub 3 (.tmp 51) (.const (.int .i64 1)) 3, some (46, false)⟩, [8, 9, 10]⟩, ⟨⟨some 53, .indexAddr 34 (.tmp 49) (.tmp 52), some (46, false)⟩, [8, 9]⟩, ⟨⟨some 54, .fieldAddr 100 (.tmp 53) 0, some (46, false)⟩, [8, 9]⟩, ⟨⟨some 55, .load 3 (.tmp 54), some (46, false)⟩, [8, 9]⟩, ⟨⟨some 56, .binOp .add 3 (.tmp 55) (.const (.int .i64 1)) 3, some (46, false)⟩, [8, 9]⟩, ⟨⟨some 57, .binOp .neq 3 (.tmp 48) (.tmp 56) 3, some (46, false)⟩, []⟩, ⟨⟨some 58, .pick (.tmp 46) (.const (.bool true)) (.tmp 57), none⟩, []⟩])) (.keep [58])) (.cond (.tmp 58) (.seq (.seq (.reg ([⟨some 2, .assign (.const (.int .i64 8)), none⟩])) (.keep [2])) .ret) .skip)) (.seq (.seq (.reg ([⟨some 2, .assign (.const (.int .i64 0)), none⟩])) (.keep [2])) .ret)))))))
attribute [go_sem ↓] c_ref04_Check
def c_ref04_Same : C := (.seq (.seq (.reg ([⟨some 2, .box 26 (.tmp 0), none⟩, ⟨some 3, .box 26 (.tmp 1), none⟩, ⟨some 4, .assign (.const (.bool false)), none⟩])) (.keep [2, 3])) (.seq (.seq (.reg ([⟨some 5, .fieldAddr 26 (.tmp 2) 1, none⟩, ⟨some 6, .load 3 (.tmp 5), none⟩, ⟨some 7, .fieldAddr 26 (.tmp 3) 1, none⟩, ⟨some 8, .load 3 (.tmp 7), none⟩, ⟨some 9, .binOp .eql 3 (.tmp 6) (.tmp 8) 3, none⟩, ⟨some 10, .move (.tmp 9), none⟩, ⟨some 11, .fieldAddr 26 (.tmp 2) 2, some (10, true)⟩, ⟨some 12, .load 3 (.tmp 11), some (10, true)⟩, ⟨some 13, .fieldAddr 26 (.tmp 3) 2, some (10, true)⟩, ⟨some 14, .load 3 (.tmp 13), some (10, true)⟩, ⟨some 15, .binOp .eql 3 (.tmp 12) (.tmp 14) 3, some (10, true)⟩, ⟨some 16, .pick (.tmp 10) (.tmp 15) (.const (.bool false)), none⟩, ⟨some 17, .move (.tmp 16), none⟩, ⟨some 18, .fieldAddr 26 (.tmp 2) 0, some (17, true)⟩, ⟨some 19, .load 24 (.tmp 18), some (17, true)⟩, ⟨some 20, .fieldAddr 26 (.tmp 3) 0, some (17, true)⟩, ⟨some 21, .load 24 (.tmp 20), some (17, true)⟩, ⟨some 22, .call { callee := .value (.func 39), args := #[(.tmp 19), (.tmp 21)], argTypes := #[24, 24] }, some (17, true)⟩, ⟨some 23, .pick (.tmp 17) (.tmp 22) (.const (.bool false)), none⟩, ⟨some 4, .assign (.tmp 23), none⟩])) (.keep [4])) .ret))
attribute [go_sem ↓] c_ref04_Same
def r_wal_Append_0 : List I := [⟨some 12, .move (.tmp 14), none⟩, ⟨some 15, .extract (.tmp 12) 0, none⟩, ⟨some 16, .extract (.tmp 12) 1, none⟩, ⟨some 7, .alloc 106, none⟩, ⟨none, .store 106 (.tmp 7) (.tmp 15), none⟩, ⟨some 8, .assign (.tmp 16), none⟩]
@[go_sem ↓] def ur_wal_Append_0 := @unI _ _ r_wal_Append_0.eq_1
def c_wal_Append_1 : C := (.seq (.seq (.reg ([⟨some 19, .build 26 #[], none⟩, ⟨some 20, .move (.tmp 8), none⟩, ⟨none, .store 26 (.tmp 4) (.tmp 19), none⟩, ⟨some 5, .assign (.const (.int .i64 0)), none⟩, ⟨some 6, .assign (.tmp 20), none⟩])) (.keep [4, 5, 6])) .ret)
@[go_sem ↓] def uc_wal_Append_1 := @unC _ _ c_wal_Append_1.eq_1
def c_wal_Append_2 : C := (.cond (.tmp 18) c_wal_Append_1 .skip)
@[go_sem ↓] def uc_wal_Append_2 := @unC _ _ c_wal_Append_2.eq_1
def c_wal_Append_3 : C := (.seq (.seq (.reg ([⟨some 24, .build 26 #[], none⟩, ⟨none, .store 26 (.tmp 4) (.tmp 24), none⟩, ⟨some 5, .assign (.const (.int .i64 0)), none⟩, ⟨some 6, .assign (.const (.int .i64 4)), none⟩])) (.keep [4, 5, 6])) .ret)
@[go_sem ↓] def uc_wal_Append_3 := @unC _ _ c_wal_Append_3.eq_1
def c_wal_Append_4 : C := (.cond (.tmp 23) c_wal_Append_3 .skip)
@[go_sem ↓] def uc_wal_Append_4 := @unC _ _ c_wal_Append_4.eq_1
def c_wal_Append_5 : C := (.seq (.seq (.reg ([⟨some 29, .build 26 #[], none⟩, ⟨none, .store 26 (.tmp 4) (.tmp 29), none⟩, ⟨some 5, .assign (.const (.int .i64 0)), none⟩, ⟨some 6, .assign (.const (.int .i64 2)), none⟩])) (.keep [4, 5, 6])) .ret)
@[go_sem ↓] def uc_wal_Append_5 := @unC _ _ c_wal_Append_5.eq_1
def c_wal_Append_6 : C := (.cond (.tmp 28) c_wal_Append_5 .skip)
@[go_sem ↓] def uc_wal_Append_6 := @unC _ _ c_wal_Append_6.eq_1
def r_wal_Append_7 : List I := [⟨some 30, .move (.tmp 36), none⟩, ⟨some 37, .extract (.tmp 30) 0, none⟩, ⟨some 38, .extract (.tmp 30) 1, none⟩, ⟨some 9, .assign (.tmp 37), none⟩, ⟨some 10, .assign (.tmp 38), none⟩]
@[go_sem ↓] def ur_wal_Append_7 := @unI _ _ r_wal_Append_7.eq_1
def r_wal_Append_8 : List I := [⟨some 39, .move (.tmp 44), none⟩, ⟨some 45, .extract (.tmp 39) 0, none⟩, ⟨some 46, .extract (.tmp 39) 1, none⟩, ⟨some 11, .alloc 24, none⟩, ⟨none, .store 24 (.tmp 11) (.tmp 45), none⟩, ⟨some 8, .assign (.tmp 46), none⟩]
@[go_sem ↓] def ur_wal_Append_8 := @unI _ _ r_wal_Append_8.eq_1
def c_wal_Append_9 : C := (.seq (.seq (.reg ([⟨some 49, .build 26 #[], none⟩, ⟨some 50, .move (.tmp 8), none⟩, ⟨none, .store 26 (.tmp 4) (.tmp 49), none⟩, ⟨some 5, .assign (.const (.int .i64 0)), none⟩, ⟨some 6, .assign (.tmp 50), none⟩])) (.keep [4, 5, 6])) .ret)
@[go_sem ↓] def uc_wal_Append_9 := @unC _ _ c_wal_Append_9.eq_1
def c_wal_Append_10 : C := (.cond (.tmp 48) c_wal_Append_9 .skip)
@[go_sem ↓] def uc_wal_Append_10 := @unC _ _ c_wal_Append_10.eq_1
def d_wal_Append_11 : List D := [⟨⟨some 61, .fieldAddr 106 (.tmp 7) 0, none⟩, [0, 1, 2, 3, 4, 5, 6, 7, 8, 9]⟩, ⟨⟨some 62, .fieldAddr 26 (.tmp 61) 2, none⟩, [0, 1, 2, 3, 4, 5, 6, 7, 8, 9]⟩, ⟨⟨some 63, .load 3 (.tmp 62), none⟩, [0, 1, 2, 3, 4, 5, 6, 7, 8, 9]⟩, ⟨⟨none, .store 26 (.tmp 4) (.tmp 60), none⟩, [10, 11, 12]⟩, ⟨⟨some 5, .assign (.tmp 63), none⟩, []⟩, ⟨⟨some 6, .assign (.const (.int .i64 0)), none⟩, []⟩]
@[go_sem ↓] def ud_wal_Append_11 := @unD _ _ d_wal_Append_11.eq_1
def c_wal_Append_12 : C := (.seq (.seq (.draw (⟨⟨some 51, .load 106 (.tmp 7), none⟩, []⟩ :: ⟨⟨some 52, .load 24 (.tmp 11), none⟩, [0]⟩ :: ⟨⟨some 53, .fieldAddr 106 (.tmp 7) 0, none⟩, [0, 1]⟩ :: ⟨⟨some 54, .fieldAddr 26 (.tmp 53) 1, none⟩, [0, 1]⟩ :: ⟨⟨some 55, .load 3 (.tmp 54), none⟩, [0, 1]⟩ :: ⟨⟨some 56, .fieldAddr 106 (.tmp 7) 0, none⟩, [0, 1, 2, 3, 4]⟩ :: ⟨⟨some 57, .fieldAddr 26 (.tmp 56) 2, none⟩, [0, 1, 2, 3, 4]⟩ :: ⟨⟨some 58, .load 3 (.tmp 57), none⟩, [0, 1, 2, 3, 4]⟩ :: ⟨⟨some 59, .binOp .add 3 (.tmp 58) (.const (.int .i64 1)) 3, none⟩, [0, 1, 2, 3, 4]⟩ :: ⟨⟨some 60, .call { callee := .value (.func 89), args := #[(.tmp 51), (.tmp 52), (.tmp 55), (.tmp 59)], argTypes := #[106, 24, 3, 3] }, none⟩, []⟩ :: d_wal_Append_11)) (.keep [4, 5, 6])) .ret)
@[go_sem ↓] def uc_wal_Append_12 := @unC _ _ c_wal_Append_12.eq_1
def c_wal_Append_13 : C := (.seq (.seq (.seq (.reg ([⟨some 47, .move (.tmp 8), none⟩, ⟨some 48, .binOp .neq 29 (.tmp 47) (.const (.int .i64 0)) 29, none⟩])) (.keep [4, 7, 8, 11, 48])) c_wal_Append_10) c_wal_Append_12)
@[go_sem ↓] def uc_wal_Append_13 := @unC _ _ c_wal_Append_13.eq_1
def c_wal_Append_14 : C := (.seq (.seq (.reg (⟨some 40, .fieldAddr 106 (.tmp 7) 0, none⟩ :: ⟨some 41, .fieldAddr 26 (.tmp 40) 0, none⟩ :: ⟨some 42, .load 24 (.tmp 41), none⟩ :: ⟨some 43, .move (.tmp 9), none⟩ :: ⟨some 44, .call { callee := .value (.func 88), args := #[(.tmp 42), (.tmp 43)], argTypes := #[24, 22] }, none⟩ :: r_wal_Append_8)) (.keep [4, 7, 8, 11])) c_wal_Append_13)
@[go_sem ↓] def uc_wal_Append_14 := @unC _ _ c_wal_Append_14.eq_1
def c_wal_Append_15 : C := (.seq (.seq (.reg (⟨some 31, .fieldAddr 106 (.tmp 7) 0, none⟩ :: ⟨some 32, .fieldAddr 26 (.tmp 31) 2, none⟩ :: ⟨some 33, .load 3 (.tmp 32), none⟩ :: ⟨some 34, .move (.tmp 1), none⟩ :: ⟨some 35, .build 100 #[(0, (.tmp 33)), (1, (.tmp 34))], none⟩ :: ⟨some 36, .call { callee := .value (.func 87), args := #[(.tmp 35)], argTypes := #[100] }, none⟩ :: r_wal_Append_7)) (.keep [4, 7, 9])) c_wal_Append_14)
@[go_sem ↓] def uc_wal_Append_15 := @unC _ _ c_wal_Append_15.eq_1
def c_wal_Append_16 : C := (.seq (.seq (.seq (.reg ([⟨some 25, .fieldAddr 106 (.tmp 7) 0, none⟩, ⟨some 26, .fieldAddr 26 (.tmp 25) 2, none⟩, ⟨some 27, .load 3 (.tmp 26), none⟩, ⟨some 28, .binOp .gtr 3 (.tmp 27) (.const (.int .i64 1000000000)) 3, none⟩])) (.keep [1, 4, 7, 28])) c_wal_Append_6) c_wal_Append_15)
@[go_sem ↓] def uc_wal_Append_16 := @unC _ _ c_wal_Append_16.eq_1
def c_wal_Append_17 : C := (.seq (.seq (.seq (.reg ([⟨some 21, .move (.tmp 1), none⟩, ⟨some 22, .call { callee := .builtin .len, args := #[(.tmp 21)], argTypes := #[22] }, none⟩, ⟨some 23, .binOp .gtr 3 (.tmp 22) (.const (.int .i64 1000)) 3, none⟩])) (.keep [1, 4, 7, 23])) c_wal_Append_4) c_wal_Append_16)
@[go_sem ↓] def uc_wal_Append_17 := @unC _ _ c_wal_Append_17.eq_1
def c_wal_Append_18 : C := (.seq (.seq (.seq (.reg ([⟨some 17, .move (.tmp 8), none⟩, ⟨some 18, .binOp .neq 29 (.tmp 17) (.const (.int .i64 0)) 29, none⟩])) (.keep [1, 4, 7, 8, 18])) c_wal_Append_2) c_wal_Append_17)
@[go_sem ↓] def uc_wal_Append_18 := @unC _ _ c_wal_Append_18.eq_1
def c_wal_Append_19 : C := (.seq (.seq (.reg (⟨some 13, .load 26 (.tmp 2), none⟩ :: ⟨some 14, .call { callee := .value (.func 64), args := #[(.tmp 13)], argTypes := #[26] }, none⟩ :: r_wal_Append_0)) (.keep [1, 4, 7, 8])) c_wal_Append_18)
@[go_sem ↓] def uc_wal_Append_19 := @unC _ _ c_wal_Append_19.eq_1
def c_wal_Append : C := (.seq (.seq (.reg ([⟨some 2, .box 26 (.tmp 0), none⟩, ⟨some 4, .alloc 26, none⟩, ⟨some 5, .assign (.const (.int .i64 0)), none⟩, ⟨some 6, .assign (.const (.int .i64 0)), none⟩])) (.keep [1, 2, 4])) c_wal_Append_19)
attribute [go_sem ↓] c_wal_Append
def h_wal_Append : List Hint := [⟨[], [1, 2, 4], []⟩, ⟨[], [1, 4, 7, 8], []⟩, ⟨[], [1, 4, 7, 8, 18], []⟩, ⟨[], [4, 5, 6], []⟩, ⟨[], [1, 4, 7, 23], []⟩, ⟨[], [4, 5, 6], []⟩, ⟨[], [1, 4, 7, 28], []⟩, ⟨[], [4, 5, 6], []⟩, ⟨[], [4, 7, 9], []⟩, ⟨[], [4, 7, 8, 11], []⟩, ⟨[], [4, 7, 8, 11, 48], []⟩, ⟨[], [4, 5, 6], []⟩, ⟨[], [4, 5, 6], []⟩]
theorem b_wal_Append : Body Try.prog 48 [] h_wal_Append c_wal_Append 64 [.cell 4 26, .tmp 5, .tmp 6] := body_of Try.func48 (by kernel_rfl) (by kernel_rfl) (by kernel_rfl) (by kernel_rfl)
def c_ref04_Append : C := (.seq (.seq (.reg ([⟨some 2, .box 26 (.tmp 0), none⟩, ⟨some 4, .alloc 26, none⟩, ⟨some 5, .assign (.const (.int .i64 0)), none⟩, ⟨some 6, .assign (.const (.int .i64 0)), none⟩])) (.keep [1, 2, 4])) (.seq (.seq (.seq (.reg ([⟨some 9, .load 26 (.tmp 2), none⟩, ⟨some 10, .call { callee := .value (.func 37), args := #[(.tmp 9)], argTypes := #[26] }, none⟩, ⟨some 11, .binOp .neq 3 (.tmp 10) (.const (.int .i64 0)) 3, none⟩])) (.keep [1, 2, 4, 11])) (.cond (.tmp 11) (.seq (.seq (.reg ([⟨some 12, .build 26 #[], none⟩, ⟨some 13, .load 26 (.tmp 2), none⟩, ⟨some 14, .call { callee := .value (.func 37), args := #[(.tmp 13)], argTypes := #[26] }, none⟩, ⟨none, .store 26 (.tmp 4) (.tmp 12), none⟩, ⟨some 5, .assign (.const (.int .i64 0)), none⟩, ⟨some 6, .assign (.tmp 14), none⟩])) (.keep [4, 5, 6])) .ret) .skip)) (.seq (.seq (.seq (.reg ([⟨some 15, .move (.tmp 1), none⟩, ⟨some 16, .call { callee := .builtin .len, args := #[(.tmp 15)], argTypes := #[22] }, none⟩, ⟨some 17, .binOp .gtr 3 (.tmp 16) (.const (.int .i64 1000)) 3, none⟩])) (.keep [1, 2, 4, 17])) (.cond (.tmp 17) (.seq (.seq (.reg ([⟨some 18, .build 26 #[], none⟩, ⟨none, .store 26 (.tmp 4) (.tmp 18), none⟩, ⟨some 5, .assign (.const (.int .i64 0)), none⟩, ⟨some 6, .assign (.const (.int .i64 4)), none⟩])) (.keep [4, 5, 6])) .ret) .skip)) (.seq (.seq (.seq (.reg ([⟨some 19, .fieldAddr 26 (.tmp 2) 2, none⟩, ⟨some 20, .load 3 (.tmp 19), none⟩, ⟨some 21, .binOp .gtr 3 (.tmp 20) (.const (.int .i64 1000000000)) 3, none⟩])) (.keep [1, 2, 4, 21])) (.cond (.tmp 21) (.seq (.seq (.reg ([⟨some 22, .build 26 #[], none⟩, ⟨none, .store 26 (.tmp 4) (.tmp 22), none⟩, ⟨some 5, .assign (.const (.int .i64 0)), none⟩, ⟨some 6, .assign (.const (.int .i64 2)), none⟩])) (.keep [4, 5, 6])) .ret) .skip)) (.seq (.seq (.draw ([⟨⟨some 24, .fieldAddr 26 (.tmp 2) 0, none⟩, []⟩, ⟨⟨some 25, .load 24 (.tmp 24), none⟩, []⟩, ⟨⟨some 26, .fieldAddr 26 (.tmp 2) 2, none⟩, [0, 1]⟩, ⟨⟨some 27, .load 3 (.tmp 26), none⟩, [0, 1]⟩, ⟨⟨some 28, .move (.tmp 1), none⟩, [0, 1, 2, 3]⟩, ⟨⟨some 29, .build 100 #[(0, (.tmp 27)), (1, (.tmp 28))], none⟩, [0, 1]⟩, ⟨⟨some 30, .call { callee := .value (.func 91), args := #[(.tmp 29)], argTypes := #[100] }, none⟩, [0, 1]⟩, ⟨⟨some 31, .call { callee := .value (.func 90), args := #[(.tmp 25), (.tmp 30)], argTypes := #[24, 22] }, none⟩, []⟩, ⟨⟨some 23, .move (.tmp 31), none⟩, []⟩, ⟨⟨some 32, .extract (.tmp 23) 0, none⟩, []⟩, ⟨⟨some 33, .extract (.tmp 23) 1, none⟩, [9]⟩, ⟨⟨some 7, .alloc 24, none⟩, [0, 1, 2, 3, 4, 5, 6, 7, 8, 9, 10]⟩, ⟨⟨none, .store 24 (.tmp 7) (.tmp 32), none⟩, [10]⟩, ⟨⟨some 8, .assign (.tmp 33), none⟩, []⟩])) (.keep [2, 4, 7, 8])) (.seq (.seq (.seq (.reg ([⟨some 34, .move (.tmp 8), none⟩, ⟨some 35, .binOp .neq 3 (.tmp 34) (.const (.int .i64 0)) 3, none⟩])) (.keep [2, 4, 7, 8, 35])) (.cond (.tmp 35) (.seq (.seq (.reg ([⟨some 36, .build 26 #[], none⟩, ⟨some 37, .move (.tmp 8), none⟩, ⟨none, .store 26 (.tmp 4) (.tmp 36), none⟩, ⟨some 5, .assign (.const (.int .i64 0)), none⟩, ⟨some 6, .assign (.tmp 37), none⟩])) (.keep [4, 5, 6])) .ret) .skip)) (.seq (.seq (.draw ([⟨⟨some 38, .load 24 (.tmp 7), none⟩, []⟩, ⟨⟨some 39, .fieldAddr 26 (.tmp 2) 1, none⟩, [0]⟩, ⟨⟨some 40, .load 3 (.tmp 39), none⟩, [0]⟩, ⟨⟨some 41, .fieldAddr 26 (.tmp 2) 2, none⟩, [0, 1, 2]⟩, ⟨⟨some 42, .load 3 (.tmp 41), none⟩, [0, 1, 2]⟩, ⟨⟨some 43, .binOp .add 3 (.tmp 42) (.const (.int .i64 1)) 3, none⟩, [0, 1, 2]⟩, ⟨⟨some 44, .build 26 #[(0, (.tmp 38)), (1, (.tmp 40)), (2, (.tmp 43))], none⟩, []⟩, ⟨⟨some 45, .fieldAddr 26 (.tmp 2) 2, none⟩, [0, 1, 2, 3, 4, 5, 6]⟩, ⟨⟨some 46, .load 3 (.tmp 45), none⟩, [0, 1, 2, 3, 4, 5, 6]⟩, ⟨⟨none, .store 26 (.tmp 4) (.tmp 44), none⟩, [7, 8]⟩, ⟨⟨some 5, .assign (.tmp 46), none⟩, []⟩, ⟨⟨some 6, .assign (.const (.int .i64 0)), none⟩, []⟩])) (.keep [4, 5, 6])) .ret)))))))
attribute [go_sem ↓] c_ref04_Append
def c_wal_Sync : C := (.seq (.seq (.reg ([⟨some 1, .box 26 (.tmp 0), none⟩, ⟨some 2, .alloc 26, none⟩, ⟨some 3, .assign (.const (.int .i64 0)), none⟩])) (.keep [1, 2])) (.seq (.seq (.reg ([⟨some 8, .load 26 (.tmp 1), none⟩, ⟨some 9, .call { callee := .value (.func 64), args := #[(.tmp 8)], argTypes := #[26] }, none⟩, ⟨some 7, .move (.tmp 9), none⟩, ⟨some 10, .extract (.tmp 7) 0, none⟩, ⟨some 11, .extract (.tmp 7) 1, none⟩, ⟨some 4, .alloc 106, none⟩, ⟨none, .store 106 (.tmp 4) (.tmp 10), none⟩, ⟨some 5, .assign (.tmp 11), none⟩])) (.keep [2, 4, 5])) (.seq (.seq (.seq (.reg ([⟨some 12, .move (.tmp 5), none⟩, ⟨some 13, .binOp .neq 29 (.tmp 12) (.const (.int .i64 0)) 29, none⟩])) (.keep [2, 4, 5, 13])) (.cond (.tmp 13) (.seq (.seq (.reg ([⟨some 14, .build 26 #[], none⟩, ⟨some 15, .move (.tmp 5), none⟩, ⟨none, .store 26 (.tmp 2) (.tmp 14), none⟩, ⟨some 3, .assign (.tmp 15), none⟩])) (.keep [2, 3])) .ret) .skip)) (.seq (.seq (.reg ([⟨some 17, .fieldAddr 106 (.tmp 4) 0, none⟩, ⟨some 18, .fieldAddr 26 (.tmp 17) 0, none⟩, ⟨some 19, .load 24 (.tmp 18), none⟩, ⟨some 20, .call { callee := .value (.func 73), args := #[(.tmp 19)], argTypes := #[24] }, none⟩, ⟨some 16, .move (.tmp 20), none⟩, ⟨some 21, .extract (.tmp 16) 0, none⟩, ⟨some 22, .extract (.tmp 16) 1, none⟩, ⟨some 6, .alloc 24, none⟩, ⟨none, .store 24 (.tmp 6) (.tmp 21), none⟩, ⟨some 5, .assign (.tmp 22), none⟩])) (.keep [2, 4, 5, 6])) (.seq (.seq (.reg ([⟨some 23, .load 106 (.tmp 4), none⟩, ⟨some 24, .load 24 (.tmp 6), none⟩, ⟨some 25, .fieldAddr 106 (.tmp 4) 0, none⟩, ⟨some 26, .fieldAddr 26 (.tmp 25) 1, none⟩, ⟨some 27, .load 3 (.tmp 26), none⟩, ⟨some 28, .fieldAddr 106 (.tmp 4) 0, none⟩, ⟨some 29, .fieldAddr 26 (.tmp 28) 2, none⟩, ⟨some 30, .load 3 (.tmp 29), none⟩, ⟨some 31, .call { callee := .value (.func 89), args := #[(.tmp 23), (.tmp 24), (.tmp 27), (.tmp 30)], argTypes := #[106, 24, 3, 3] }, none⟩, ⟨some 32, .move (.tmp 5), none⟩, ⟨none, .store 26 (.tmp 2) (.tmp 31), none⟩, ⟨some 3, .assign (.tmp 32), none⟩])) (.keep [2, 3])) .ret)))))
attribute [go_sem ↓] c_wal_Sync
def h_wal_Sync : List Hint := [⟨[], [1, 2], []⟩, ⟨[], [2, 4, 5], []⟩, ⟨[], [2, 4, 5, 13], []⟩, ⟨[], [2, 3], []⟩, ⟨[], [2, 4, 5, 6], []⟩, ⟨[], [2, 3], []⟩]
theorem b_wal_Sync : Body Try.prog 50 [] h_wal_Sync c_wal_Sync 33 [.cell 2 26, .tmp 3] := body_of Try.func50 (by kernel_rfl) (by kernel_rfl) (by kernel_rfl) (by kernel_rfl)
def c_ref04_Sync : C := (.seq (.seq (.reg ([⟨some 1, .box 26 (.tmp 0), none⟩, ⟨some 2, .alloc 26, none⟩, ⟨some 3, .assign (.const (.int .i64 0)), none⟩])) (.keep [1, 2])) (.seq (.seq (.seq (.reg ([⟨some 6, .load 26 (.tmp 1), none⟩, ⟨some 7, .call { callee := .value (.func 37), args := #[(.tmp 6)], argTypes := #[26] }, none⟩, ⟨some 8, .binOp .neq 3 (.tmp 7) (.const (.int .i64 0)) 3, none⟩])) (.keep [1, 2, 8])) (.cond (.tmp 8) (.seq (.seq (.reg ([⟨some 9, .build 26 #[], none⟩, ⟨some 10, .load 26 (.tmp 1), none⟩, ⟨some 11, .call { callee := .value (.func 37), args := #[(.tmp 10)], argTypes := #[26] }, none⟩, ⟨none, .store 26 (.tmp 2) (.tmp 9), none⟩, ⟨some 3, .assign (.tmp 11), none⟩])) (.keep [2, 3])) .ret) .skip)) (.seq (.seq (.reg ([⟨some 13, .fieldAddr 26 (.tmp 1) 0, none⟩, ⟨some 14, .load 24 (.tmp 13), none⟩, ⟨some 15, .call { callee := .value (.func 92), args := #[(.tmp 14)], argTypes := #[24] }, none⟩, ⟨some 12, .move (.tmp 15), none⟩, ⟨some 16, .extract (.tmp 12) 0, none⟩, ⟨some 17, .extract (.tmp 12) 1, none⟩, ⟨some 4, .alloc 24, none⟩, ⟨none, .store 24 (.tmp 4) (.tmp 16), none⟩, ⟨some 5, .assign (.tmp 17), none⟩])) (.keep [1, 2, 4])) (.seq (.seq (.reg ([⟨some 18, .load 24 (.tmp 4), none⟩, ⟨some 19, .fieldAddr 26 (.tmp 1) 1, none⟩, ⟨some 20, .load 3 (.tmp 19), none⟩, ⟨some 21, .fieldAddr 26 (.tmp 1) 2, none⟩, ⟨some 22, .load 3 (.tmp 21), none⟩, ⟨some 23, .build 26 #[(0, (.tmp 18)), (1, (.tmp 20)), (2, (.tmp 22))], none⟩, ⟨none, .store 26 (.tmp 2) (.tmp 23), none⟩, ⟨some 3, .assign (.const (.int .i64 0)), none⟩])) (.keep [2, 3])) .ret))))
attribute [go_sem ↓] c_ref04_Sync
def c_wal_Drop : C := (.seq (.seq (.reg ([⟨some 2, .box 26 (.tmp 0), none⟩, ⟨some 4, .alloc 26, none⟩, ⟨some 5, .assign (.const (.int .i64 0)), none⟩])) (.keep [1, 2, 4])) (.seq (.seq (.reg ([⟨some 10, .load 26 (.tmp 2), none⟩, ⟨some 11, .call { callee := .value (.func 64), args := #[(.tmp 10)], argTypes := #[26] }, none⟩, ⟨some 9, .move (.tmp 11), none⟩, ⟨some 12, .extract (.tmp 9) 0, none⟩, ⟨some 13, .extract (.tmp 9) 1, none⟩, ⟨some 6, .alloc 106, none⟩, ⟨none, .store 106 (.tmp 6) (.tmp 12), none⟩, ⟨some 7, .assign (.tmp 13), none⟩])) (.keep [1, 4, 6, 7])) (.seq (.seq (.seq (.reg ([⟨some 14, .move (.tmp 7), none⟩, ⟨some 15, .binOp .neq 29 (.tmp 14) (.const (.int .i64 0)) 29, none⟩])) (.keep [1, 4, 6, 7, 15])) (.cond (.tmp 15) (.seq (.seq (.reg ([⟨some 16, .build 26 #[], none⟩, ⟨some 17, .move (.tmp 7), none⟩, ⟨none, .store 26 (.tmp 4) (.tmp 16), none⟩, ⟨some 5, .assign (.tmp 17), none⟩])) (.keep [4, 5])) .ret) .skip)) (.seq (.seq (.seq (.reg ([⟨some 18, .move (.tmp 1), none⟩, ⟨some 19, .fieldAddr 106 (.tmp 6) 0, none⟩, ⟨some 20, .fieldAddr 26 (.tmp 19) 1, none⟩, ⟨some 21, .load 3 (.tmp 20), none⟩, ⟨some 22, .binOp .lss 3 (.tmp 18) (.tmp 21) 3, none⟩, ⟨some 23, .move (.tmp 22), none⟩, ⟨some 24, .move (.tmp 1), some (23, false)⟩, ⟨some 25, .fieldAddr 106 (.tmp 6) 0, some (23, false)⟩, ⟨some 26, .fieldAddr 26 (.tmp 25) 2, some (23, false)⟩, ⟨some 27, .load 3 (.tmp 26), some (23, false)⟩, ⟨some 28, .binOp .gtr 3 (.tmp 24) (.tmp 27) 3, some (23, false)⟩, ⟨some 29, .pick (.tmp 23) (.const (.bool true)) (.tmp 28), none⟩])) (.keep [1, 4, 6, 29])) (.cond (.tmp 29) (.seq (.seq (.reg ([⟨some 30, .build 26 #[], none⟩, ⟨none, .store 26 (.tmp 4) (.tmp 30), none⟩, ⟨some 5, .assign (.const (.int .i64 2)), none⟩])) (.keep [4, 5])) .ret) .skip)) (.seq (.seq (.seq (.reg ([⟨some 31, .move (.tmp 1), none⟩, ⟨some 32, .load 106 (.tmp 6), none⟩, ⟨some 33, .call { callee := .value (.func 65), args := #[(.tmp 32)], argTypes := #[106] }, none⟩, ⟨some 34, .binOp .gtr 3 (.tmp 31) (.tmp 33) 3, none⟩])) (.keep [1, 4, 6, 34])) (.cond (.tmp 34) (.seq (.seq (.reg ([⟨some 35, .build 26 #[], none⟩, ⟨none, .store 26 (.tmp 4) (.tmp 35), none⟩, ⟨some 5, .assign (.const (.int .i64 32)), none⟩])) (.keep [4, 5])) .ret) .skip)) (.seq (.seq (.draw ([⟨⟨some 37, .fieldAddr 106 (.tmp 6) 0, none⟩, []⟩, ⟨⟨some 38, .fieldAddr 26 (.tmp 37) 0, none⟩, []⟩, ⟨⟨some 39, .load 24 (.tmp 38), none⟩, []⟩, ⟨⟨some 40, .load 106 (.tmp 6), none⟩, [0, 1, 2]⟩, ⟨⟨some 41, .move (.tmp 1), none⟩, [0, 1, 2, 3]⟩, ⟨⟨some 42, .call { callee := .value (.func 94), args := #[(.tmp 40), (.tmp 41)], argTypes := #[106, 3] }, none⟩, [0, 1, 2]⟩, ⟨⟨some 43, .call { callee := .value (.func 93), args := #[(.tmp 39), (.tmp 42)], argTypes := #[24, 3] }, none⟩, []⟩, ⟨⟨some 36, .move (.tmp 43), none⟩, []⟩, ⟨⟨some 44, .extract (.tmp 36) 0, none⟩, []⟩, ⟨⟨some 45, .extract (.tmp 36) 1, none⟩, [8]⟩, ⟨⟨some 8, .alloc 24, none⟩, [0, 1, 2, 3, 4, 5, 6, 7, 8, 9]⟩, ⟨⟨none, .store 24 (.tmp 8) (.tmp 44), none⟩, [9]⟩, ⟨⟨some 7, .assign (.tmp 45), none⟩, []⟩])) (.keep [1, 4, 6, 7, 8])) (.seq (.seq (.reg ([⟨some 46, .load 106 (.tmp 6), none⟩, ⟨some 47, .load 24 (.tmp 8), none⟩, ⟨some 48, .move (.tmp 1), none⟩, ⟨some 49, .fieldAddr 106 (.tmp 6) 0, none⟩, ⟨some 50, .fieldAddr 26 (.tmp 49) 2, none⟩, ⟨some 51, .load 3 (.tmp 50), none⟩, ⟨some 52, .call { callee := .value (.func 89), args := #[(.tmp 46), (.tmp 47), (.tmp 48), (.tmp 51)], argTypes := #[106, 24, 3, 3] }, none⟩, ⟨some 53, .move (.tmp 7), none⟩, ⟨none, .store 26 (.tmp 4) (.tmp 52), none⟩, ⟨some 5, .assign (.tmp 53), none⟩])) (.keep [4, 5])) .ret)))))))
attribute [go_sem ↓] c_wal_Drop
def h_wal_Drop : List Hint := [⟨[], [1, 2, 4], []⟩, ⟨[], [1, 4, 6, 7], []⟩, ⟨[], [1, 4, 6, 7, 15], []⟩, ⟨[], [4, 5], []⟩, ⟨[], [1, 4, 6, 29], []⟩, ⟨[], [4, 5], []⟩, ⟨[], [1, 4, 6, 34], []⟩, ⟨[], [4, 5], []⟩, ⟨[], [1, 4, 6, 7, 8], []⟩, ⟨[], [4, 5], []⟩]
theorem b_wal_Drop : Body Try.prog 52 [] h_wal_Drop c_wal_Drop 54 [.cell 4 26, .tmp 5] := body_of Try.func52 (by kernel_rfl) (by kernel_rfl) (by kernel_rfl) (by kernel_rfl)
def r_ref04_Drop_0 : List I := [⟨some 14, .binOp .neq 3 (.tmp 13) (.const (.int .i64 0)) 3, none⟩]
@[go_sem ↓] def ur_ref04_Drop_0 := @unI _ _ r_ref04_Drop_0.eq_1
def r_ref04_Drop_1 : List I := [⟨none, .store 26 (.tmp 4) (.tmp 15), none⟩, ⟨some 5, .assign (.tmp 17), none⟩]
@[go_sem ↓] def ur_ref04_Drop_1 := @unI _ _ r_ref04_Drop_1.eq_1
def c_ref04_Drop_2 : C := (.seq (.seq (.reg (⟨some 15, .build 26 #[], none⟩ :: ⟨some 16, .load 26 (.tmp 2), none⟩ :: ⟨some 17, .call { callee := .value (.func 37), args := #[(.tmp 16)], argTypes := #[26] }, none⟩ :: r_ref04_Drop_1)) (.keep [4, 5])) .ret)
@[go_sem ↓] def uc_ref04_Drop_2 := @unC _ _ c_ref04_Drop_2.eq_1
def c_ref04_Drop_3 : C := (.cond (.tmp 14) c_ref04_Drop_2 .skip)
@[go_sem ↓] def uc_ref04_Drop_3 := @unC _ _ c_ref04_Drop_3.eq_1
def c_ref04_Drop_4 : C := (.seq (.seq (.reg ([⟨some 28, .build 26 #[], none⟩, ⟨none, .store 26 (.tmp 4) (.tmp 28), none⟩, ⟨some 5, .assign (.const (.int .i64 2)), none⟩])) (.keep [4, 5])) .ret)
@[go_sem ↓] def uc_ref04_Drop_4 := @unC _ _ c_ref04_Drop_4.eq_1
def c_ref04_Drop_5 : C := (.cond (.tmp 27) c_ref04_Drop_4 .skip)
@[go_sem ↓] def uc_ref04_Drop_5 := @unC _ _ c_ref04_Drop_5.eq_1
def r_ref04_Drop_6 : List I := [⟨some 32, .binOp .gtr 3 (.tmp 29) (.tmp 31) 3, none⟩]
@[go_sem ↓] def ur_ref04_Drop_6 := @unI _ _ r_ref04_Drop_6.eq_1
def c_ref04_Drop_7 : C := (.seq (.seq (.reg ([⟨some 33, .build 26 #[], none⟩, ⟨none, .store 26 (.tmp 4) (.tmp 33), none⟩, ⟨some 5, .assign (.const (.int .i64 32)), none⟩])) (.keep [4, 5])) .ret)
@[go_sem ↓] def uc_ref04_Drop_7 := @unC _ _ c_ref04_Drop_7.eq_1
def c_ref04_Drop_8 : C := (.cond (.tmp 32) c_ref04_Drop_7 .skip)
@[go_sem ↓] def uc_ref04_Drop_8 := @unC _ _ c_ref04_Drop_8.eq_1
def r_ref04_Drop_9 : List I := [⟨some 34, .move (.tmp 37), none⟩, ⟨some 38, .extract (.tmp 34) 0, none⟩, ⟨some 39, .extract (.tmp 34) 1, none⟩, ⟨some 6, .assign (.tmp 38), none⟩, ⟨some 7, .assign (.tmp 39), none⟩]
@[go_sem ↓] def ur_ref04_Drop_9 := @unI _ _ r_ref04_Drop_9.eq_1
def c_ref04_Drop_10 : C := (.cond (.tmp 45) .skip (.exit 0))
@[go_sem ↓] def uc_ref04_Drop_10 := @unC _ _ c_ref04_Drop_10.eq_1
def c_ref04_Drop_11 : C := (.seq (.reg ([⟨some 46, .move (.tmp 9), none⟩, ⟨some 47, .binOp .add 3 (.tmp 46) (.const (.int .i64 1)) 3, none⟩, ⟨some 9, .assign (.tmp 47), none⟩])) (.keep [1, 2, 4, 6, 8, 9]))
@[go_sem ↓] def uc_ref04_Drop_11 := @unC _ _ c_ref04_Drop_11.eq_1
def c_ref04_Drop_12 : C := (.seq (.block 1 (.seq (.reg ([⟨some 48, .move (.tmp 8), none⟩, ⟨some 49, .move (.tmp 6), none⟩, ⟨some 50, .move (.tmp 9), none⟩, ⟨some 51, .indexAddr 34 (.tmp 49) (.tmp 50), none⟩, ⟨some 52, .fieldAddr 100 (.tmp 51) 1, none⟩, ⟨some 53, .load 22 (.tmp 52), none⟩, ⟨some 54, .call { callee := .builtin .len, args := #[(.tmp 53)], argTypes := #[22] }, none⟩, ⟨some 55, .binOp .add 3 (.const (.int .i64 12)) (.tmp 54) 3, none⟩, ⟨some 56, .binOp .add 3 (.tmp 48) (.tmp 55) 3, none⟩, ⟨some 8, .assign (.tmp 56), none⟩])) (.keep [1, 2, 4, 6, 8, 9]))) c_ref04_Drop_11)
@[go_sem ↓] def uc_ref04_Drop_12 := @unC _ _ c_ref04_Drop_12.eq_1
def c_ref04_Drop_13 : C := (.seq (.seq (.seq (.reg ([⟨some 40, .move (.tmp 9), none⟩, ⟨some 41, .move (.tmp 1), none⟩, ⟨some 42, .fieldAddr 26 (.tmp 2) 1, none⟩, ⟨some 43, .load 3 (.tmp 42), none⟩, ⟨some 44, .binOp .sub 3 (.tmp 41) (.tmp 43) 3, none⟩, ⟨some 45, .binOp .lss 3 (.tmp 40) (.tmp 44) 3, none⟩])) (.keep [1, 2, 4, 6, 8, 9, 45])) c_ref04_Drop_10) c_ref04_Drop_12)
@[go_sem ↓] def uc_ref04_Drop_13 := @unC _ _ c_ref04_Drop_13.eq_1
def c_ref04_Drop_14 : C := (.block 0 (.loop [] [1, 2, 4, 6, 8, 9] c_ref04_Drop_13))
@[go_sem ↓] def uc_ref04_Drop_14 := @unC _ _ c_ref04_Drop_14.eq_1
def r_ref04_Drop_15 : List I := [⟨some 57, .move (.tmp 61), none⟩, ⟨some 62, .extract (.tmp 57) 0, none⟩, ⟨some 63, .extract (.tmp 57) 1, none⟩, ⟨some 10, .alloc 24, none⟩, ⟨none, .store 24 (.tmp 10) (.tmp 62), none⟩, ⟨some 11, .assign (.tmp 63), none⟩]
@[go_sem ↓] def ur_ref04_Drop_15 := @unI _ _ r_ref04_Drop_15.eq_1
def c_ref04_Drop_16 : C := (.seq (.seq (.reg ([⟨some 64, .load 24 (.tmp 10), none⟩, ⟨some 65, .move (.tmp 1), none⟩, ⟨some 66, .fieldAddr 26 (.tmp 2) 2, none⟩, ⟨some 67, .load 3 (.tmp 66), none⟩, ⟨some 68, .build 26 #[(0, (.tmp 64)), (1, (.tmp 65)), (2, (.tmp 67))], none⟩, ⟨none, .store 26 (.tmp 4) (.tmp 68), none⟩, ⟨some 5, .assign (.const (.int .i64 0)), none⟩])) (.keep [4, 5])) .ret)
@[go_sem ↓] def uc_ref04_Drop_16 := @unC _ _ c_ref04_Drop_16.eq_1
def c_ref04_Drop_17 : C := (.seq (.seq (.reg (⟨some 58, .fieldAddr 26 (.tmp 2) 0, none⟩ :: ⟨some 59, .load 24 (.tmp 58), none⟩ :: ⟨some 60, .move (.tmp 8), none⟩ :: ⟨some 61, .call { callee := .value (.func 95), args := #[(.tmp 59), (.tmp 60)], argTypes := #[24, 3] }, none⟩ :: r_ref04_Drop_15)) (.keep [1, 2, 4, 10])) c_ref04_Drop_16)
@[go_sem ↓] def uc_ref04_Drop_17 := @unC _ _ c_ref04_Drop_17.eq_1
def c_ref04_Drop_18 : C := (.seq (.seq (.seq (.reg ([⟨some 9, .assign (.const (.int .i64 0)), none⟩])) (.keep [1, 2, 4, 6, 8, 9])) c_ref04_Drop_14) c_ref04_Drop_17)
@[go_sem ↓] def uc_ref04_Drop_18 := @unC _ _ c_ref04_Drop_18.eq_1
def c_ref04_Drop_19 : C := (.seq (.seq (.reg ([⟨some 8, .assign (.const (.int .i64 0)), none⟩])) (.keep [1, 2, 4, 6, 8])) c_ref04_Drop_18)
@[go_sem ↓] def uc_ref04_Drop_19 := @unC _ _ c_ref04_Drop_19.eq_1
def c_ref04_Drop_20 : C := (.seq (.seq (.reg (⟨some 35, .fieldAddr 26 (.tmp 2) 0, none⟩ :: ⟨some 36, .load 24 (.tmp 35), none⟩ :: ⟨some 37, .call { callee := .value (.func 67), args := #[(.tmp 36)], argTypes := #[24] }, none⟩ :: r_ref04_Drop_9)) (.keep [1, 2, 4, 6])) c_ref04_Drop_19)
@[go_sem ↓] def uc_ref04_Drop_20 := @unC _ _ c_ref04_Drop_20.eq_1
def c_ref04_Drop_21 : C := (.seq (.seq (.seq (.reg (⟨some 29, .move (.tmp 1), none⟩ :: ⟨some 30, .load 26 (.tmp 2), none⟩ :: ⟨some 31, .call { callee := .value (.func 66), args := #[(.tmp 30)], argTypes := #[26] }, none⟩ :: r_ref04_Drop_6)) (.keep [1, 2, 4, 32])) c_ref04_Drop_8) c_ref04_Drop_20)
@[go_sem ↓] def uc_ref04_Drop_21 := @unC _ _ c_ref04_Drop_21.eq_1
def c_ref04_Drop_22 : C := (.seq (.seq (.seq (.reg ([⟨some 18, .move (.tmp 1), none⟩, ⟨some 19, .fieldAddr 26 (.tmp 2) 1, none⟩, ⟨some 20, .load 3 (.tmp 19), none⟩, ⟨some 21, .binOp .lss 3 (.tmp 18) (.tmp 20) 3, none⟩, ⟨some 22, .move (.tmp 21), none⟩, ⟨some 23, .move (.tmp 1), some (22, false)⟩, ⟨some 24, .fieldAddr 26 (.tmp 2) 2, some (22, false)⟩, ⟨some 25, .load 3 (.tmp 24), some (22, false)⟩, ⟨some 26, .binOp .gtr 3 (.tmp 23) (.tmp 25) 3, some (22, false)⟩, ⟨some 27, .pick (.tmp 22) (.const (.bool true)) (.tmp 26), none⟩])) (.keep [1, 2, 4, 27])) c_ref04_Drop_5) c_ref04_Drop_21)
@[go_sem ↓] def uc_ref04_Drop_22 := @unC _ _ c_ref04_Drop_22.eq_1
def c_ref04_Drop_23 : C := (.seq (.seq (.seq (.reg (⟨some 12, .load 26 (.tmp 2), none⟩ :: ⟨some 13, .call { callee := .value (.func 37), args := #[(.tmp 12)], argTypes := #[26] }, none⟩ :: r_ref04_Drop_0)) (.keep [1, 2, 4, 14])) c_ref04_Drop_3) c_ref04_Drop_22)
@[go_sem ↓] def uc_ref04_Drop_23 := @unC _ _ c_ref04_Drop_23.eq_1
def c_ref04_Drop : C := (.seq (.seq (.reg ([⟨some 2, .box 26 (.tmp 0), none⟩, ⟨some 4, .alloc 26, none⟩, ⟨some 5, .assign (.const (.int .i64 0)), none⟩])) (.keep [1, 2, 4])) c_ref04_Drop_23)
attribute [go_sem ↓] c_ref04_Drop
def r_wal_look_0 : List I := [⟨some 11, .binOp .neq 29 (.tmp 10) (.const (.int .i64 0)) 29, none⟩, ⟨some 12, .move (.tmp 11), none⟩, ⟨some 13, .fieldAddr 26 (.tmp 1) 0, some (12, false)⟩, ⟨some 14, .fieldAddr 24 (.tmp 13) 3, some (12, false)⟩, ⟨some 15, .load 4 (.tmp 14), some (12, false)⟩, ⟨some 16, .pick (.tmp 12) (.const (.bool true)) (.tmp 15), none⟩]
@[go_sem ↓] def ur_wal_look_0 := @unI _ _ r_wal_look_0.eq_1
def c_wal_look_1 : C := (.seq (.seq (.reg ([⟨some 17, .build 106 #[], none⟩, ⟨none, .store 106 (.tmp 2) (.tmp 17), none⟩, ⟨some 3, .assign (.const (.int .i64 8)), none⟩])) (.keep [2, 3])) .ret)
@[go_sem ↓] def uc_wal_look_1 := @unC _ _ c_wal_look_1.eq_1
def c_wal_look_2 : C := (.cond (.tmp 16) c_wal_look_1 .skip)
@[go_sem ↓] def uc_wal_look_2 := @unC _ _ c_wal_look_2.eq_1
def r_wal_look_3 : List I := [⟨some 4, .assign (.tmp 20), none⟩]
@[go_sem ↓] def ur_wal_look_3 := @unI _ _ r_wal_look_3.eq_1
def r_wal_look_4 : List I := [⟨some 21, .move (.tmp 23), none⟩, ⟨some 24, .extract (.tmp 21) 0, none⟩, ⟨some 25, .extract (.tmp 21) 1, none⟩, ⟨some 26, .extract (.tmp 21) 2, none⟩, ⟨some 5, .assign (.tmp 24), none⟩, ⟨some 6, .assign (.tmp 25), none⟩, ⟨some 7, .assign (.tmp 26), none⟩]
@[go_sem ↓] def ur_wal_look_4 := @unI _ _ r_wal_look_4.eq_1
def c_wal_look_5 : C := (.seq (.seq (.reg ([⟨some 45, .build 106 #[], none⟩, ⟨none, .store 106 (.tmp 2) (.tmp 45), none⟩, ⟨some 3, .assign (.const (.int .i64 8)), none⟩])) (.keep [2, 3])) .ret)
@[go_sem ↓] def uc_wal_look_5 := @unC _ _ c_wal_look_5.eq_1
def c_wal_look_6 : C := (.cond (.tmp 44) c_wal_look_5 .skip)
@[go_sem ↓] def uc_wal_look_6 := @unC _ _ c_wal_look_6.eq_1
def c_wal_look_7 : C := (.seq (.seq (.reg ([⟨some 73, .build 106 #[], none⟩, ⟨none, .store 106 (.tmp 2) (.tmp 73), none⟩, ⟨some 3, .assign (.const (.int .i64 8)), none⟩])) (.keep [2, 3])) .ret)
@[go_sem ↓] def uc_wal_look_7 := @unC _ _ c_wal_look_7.eq_1
def c_wal_look_8 : C := (.cond (.tmp 72) c_wal_look_7 .skip)
@[go_sem ↓] def uc_wal_look_8 := @unC _ _ c_wal_look_8.eq_1
def c_wal_look_9 : C := (.seq (.seq (.reg ([⟨some 74, .load 26 (.tmp 1), none⟩, ⟨some 75, .move (.tmp 5), none⟩, ⟨some 76, .build 106 #[(0, (.tmp 74)), (1, (.tmp 75))], none⟩, ⟨none, .store 106 (.tmp 2) (.tmp 76), none⟩, ⟨some 3, .assign (.const (.int .i64 0)), none⟩])) (.keep [2, 3])) .ret)
@[go_sem ↓] def uc_wal_look_9 := @unC _ _ c_wal_look_9.eq_1
def c_wal_look_10 : C := (.seq (.seq (.seq (.draw ([⟨⟨some 46, .move (.tmp 5), none⟩, []⟩, ⟨⟨some 47, .call { callee := .builtin .len, args := #[(.tmp 46)], argTypes := #[34] }, none⟩, []⟩, ⟨⟨some 48, .binOp .eql 3 (.tmp 47) (.const (.int .i64 0)) 3, none⟩, []⟩, ⟨⟨some 49, .move (.tmp 48), none⟩, []⟩, ⟨⟨some 50, .fieldAddr 26 (.tmp 1) 1, some (49, true)⟩, []⟩, ⟨⟨some 51, .load 3 (.tmp 50), some (49, true)⟩, []⟩, ⟨⟨some 52, .binOp .lss 3 (.tmp 51) (.const (.int .i64 0)) 3, some (49, true)⟩, []⟩, ⟨⟨some 53, .move (.tmp 52), some (49, true)⟩, []⟩, ⟨⟨some 54, .fieldAddr 26 (.tmp 1) 1, some (53, false)⟩, []⟩, ⟨⟨some 55, .load 3 (.tmp 54), some (53, false)⟩, []⟩, ⟨⟨some 56, .binOp .gtr 3 (.tmp 55) (.const (.int .i64 1000000001)) 3, some (53, false)⟩, []⟩, ⟨⟨some 57, .pick (.tmp 53) (.const (.bool true)) (.tmp 56), some (49, true)⟩, []⟩, ⟨⟨some 58, .pick (.tmp 49) (.tmp 57) (.const (.bool false)), none⟩, []⟩, ⟨⟨some 59, .move (.tmp 58), none⟩, []⟩, ⟨⟨some 60, .move (.tmp 5), some (59, false)⟩, []⟩, ⟨⟨some 61, .call { callee := .builtin .len, args := #[(.tmp 60)], argTypes := #[34] }, some (59, false)⟩, []⟩, ⟨⟨some 62, .binOp .gtr 3 (.tmp 61) (.const (.int .i64 0)) 3, some (59, false)⟩, []⟩, ⟨⟨some 63, .move (.tmp 62), some (59, false)⟩, []⟩, ⟨⟨some 64, .move (.tmp 5), some (63, true)⟩, []⟩, ⟨⟨some 65, .indexAddr 34 (.tmp 64) (.const (.int .i64 0)), some (63, true)⟩, []⟩, ⟨⟨some 66, .fieldAddr 100 (.tmp 65) 0, some (63, true)⟩, []⟩, ⟨⟨some 67, .load 3 (.tmp 66), some (63, true)⟩, []⟩, ⟨⟨some 68, .fieldAddr 26 (.tmp 1) 1, some (63, true)⟩, [18, 19, 20, 21]⟩, ⟨⟨some 69, .load 3 (.tmp 68), some (63, true)⟩, [18, 19, 20, 21]⟩, ⟨⟨some 70, .binOp .neq 3 (.tmp 67) (.tmp 69) 3, some (63, true)⟩, []⟩, ⟨⟨some 71, .pick (.tmp 63) (.tmp 70) (.const (.bool false)), some (59, false)⟩, []⟩, ⟨⟨some 72, .pick (.tmp 59) (.const (.bool true)) (.tmp 71), none⟩, []⟩])) (.keep [1, 2, 5, 72])) c_wal_look_8) c_wal_look_9)
@[go_sem ↓] def uc_wal_look_10 := @unC _ _ c_wal_look_10.eq_1
def c_wal_look_11 : C := (.seq (.seq (.seq (.reg ([⟨some 27, .move (.tmp 7), none⟩, ⟨some 28, .binOp .neq 29 (.tmp 27) (.const (.int .i64 0)) 29, none⟩, ⟨some 29, .move (.tmp 28), none⟩, ⟨some 30, .move (.tmp 6), some (29, false)⟩, ⟨some 31, .move (.tmp 4), some (29, false)⟩, ⟨some 32, .call { callee := .builtin .len, args := #[(.tmp 31)], argTypes := #[22] }, some (29, false)⟩, ⟨some 33, .binOp .neq 3 (.tmp 30) (.tmp 32) 3, some (29, false)⟩, ⟨some 34, .pick (.tmp 29) (.const (.bool true)) (.tmp 33), none⟩, ⟨some 35, .move (.tmp 34), none⟩, ⟨some 36, .fieldAddr 26 (.tmp 1) 2, some (35, false)⟩, ⟨some 37, .load 3 (.tmp 36), some (35, false)⟩, ⟨some 38, .fieldAddr 26 (.tmp 1) 1, some (35, false)⟩, ⟨some 39, .load 3 (.tmp 38), some (35, false)⟩, ⟨some 40, .binOp .sub 3 (.tmp 37) (.tmp 39) 3, some (35, false)⟩, ⟨some 41, .move (.tmp 5), some (35, false)⟩, ⟨some 42, .call { callee := .builtin .len, args := #[(.tmp 41)], argTypes := #[34] }, some (35, false)⟩, ⟨some 43, .binOp .neq 3 (.tmp 40) (.tmp 42) 3, some (35, false)⟩, ⟨some 44, .pick (.tmp 35) (.const (.bool true)) (.tmp 43), none⟩])) (.keep [1, 2, 5, 44])) c_wal_look_6) c_wal_look_10)
@[go_sem ↓] def uc_wal_look_11 := @unC _ _ c_wal_look_11.eq_1
def c_wal_look_12 : C := (.seq (.seq (.reg (⟨some 22, .move (.tmp 4), none⟩ :: ⟨some 23, .call { callee := .value (.func 75), args := #[(.tmp 22)], argTypes := #[22] }, none⟩ :: r_wal_look_4)) (.keep [1, 2, 4, 5, 6, 7])) c_wal_look_11)
@[go_sem ↓] def uc_wal_look_12 := @unC _ _ c_wal_look_12.eq_1
def c_wal_look_13 : C := (.seq (.seq (.reg (⟨some 18, .fieldAddr 26 (.tmp 1) 0, none⟩ :: ⟨some 19, .load 24 (.tmp 18), none⟩ :: ⟨some 20, .call { callee := .value (.func 76), args := #[(.tmp 19)], argTypes := #[24] }, none⟩ :: r_wal_look_3)) (.keep [1, 2, 4])) c_wal_look_12)
@[go_sem ↓] def uc_wal_look_13 := @unC _ _ c_wal_look_13.eq_1
def c_wal_look_14 : C := (.seq (.seq (.seq (.reg (⟨some 8, .fieldAddr 26 (.tmp 1) 0, none⟩ :: ⟨some 9, .load 24 (.tmp 8), none⟩ :: ⟨some 10, .call { callee := .value (.func 71), args := #[(.tmp 9)], argTypes := #[24] }, none⟩ :: r_wal_look_0)) (.keep [1, 2, 16])) c_wal_look_2) c_wal_look_13)
@[go_sem ↓] def uc_wal_look_14 := @unC _ _ c_wal_look_14.eq_1
def c_wal_look : C := (.seq (.seq (.reg ([⟨some 1, .box 26 (.tmp 0), none⟩, ⟨some 2, .alloc 106, none⟩, ⟨some 3, .assign (.const (.int .i64 0)), none⟩])) (.keep [1, 2])) c_wal_look_14)
attribute [go_sem ↓] c_wal_look
def h_wal_look : List Hint := [⟨[], [1, 2], []⟩, ⟨[], [1, 2, 16], []⟩, ⟨[], [2, 3], []⟩, ⟨[], [1, 2, 4], []⟩, ⟨[], [1, 2, 4, 5, 6, 7], []⟩, ⟨[], [1, 2, 5, 44], []⟩, ⟨[], [2, 3], []⟩, ⟨[], [1, 2, 5, 72], []⟩, ⟨[], [2, 3], []⟩, ⟨[], [2, 3], []⟩]
theorem b_wal_look : Body Try.prog 64 [] h_wal_look c_wal_look 77 [.cell 2 106, .tmp 3] := body_of Try.func64 (by kernel_rfl) (by kernel_rfl) (by kernel_rfl) (by kernel_rfl)
def c_wal_view_synced : C := (.seq (.seq (.reg ([⟨some 1, .box 106 (.tmp 0), none⟩, ⟨some 2, .assign (.const (.int .i64 0)), none⟩])) (.keep [1])) (.seq (.seq (.reg ([⟨some 5, .makeFunc (.func 96) #[] #[(.tmp 1)], none⟩, ⟨some 3, .assign (.tmp 5), none⟩])) (.keep [1, 3])) (.seq (.seq (.seq (.reg ([⟨some 6, .fieldAddr 106 (.tmp 1) 1, none⟩, ⟨some 7, .load 34 (.tmp 6), none⟩, ⟨some 8, .move (.tmp 3), none⟩, ⟨some 9, .call { callee := .value (.func 97), args := #[(.tmp 7), (.tmp 8)], argTypes := #[34, 135] }, none⟩, ⟨some 4, .assign (.tmp 9), none⟩])) (.keep [1, 4])) (.seq (.seq (.reg ([⟨some 10, .move (.tmp 4), none⟩, ⟨some 11, .binOp .geq 3 (.tmp 10) (.const (.int .i64 0)) 3, none⟩])) (.keep [1, 4, 11])) (.cond (.tmp 11) (.seq (.seq (.reg ([⟨some 12, .fieldAddr 106 (.tmp 1) 0, none⟩, ⟨some 13, .fieldAddr 26 (.tmp 12) 1, none⟩, ⟨some 14, .load 3 (.tmp 13), none⟩, ⟨some 15, .move (.tmp 4), none⟩, ⟨some 16, .binOp .add 3 (.tmp 14) (.tmp 15) 3, none⟩, ⟨some 2, .assign (.tmp 16), none⟩])) (.keep [2])) .ret) .skip))) (.seq (.seq (.reg ([⟨some 17, .fieldAddr 106 (.tmp 1) 0, none⟩, ⟨some 18, .fieldAddr 26 (.tmp 17) 2, none⟩, ⟨some 19, .load 3 (.tmp 18), none⟩, ⟨some 2, .assign (.tmp 19), none⟩])) (.keep [2])) .ret))))
attribute [go_sem ↓] c_wal_view_synced
def h_wal_view_synced : List Hint := [⟨[], [1], []⟩, ⟨[], [1, 3], []⟩, ⟨[], [1, 4], []⟩, ⟨[], [1, 4, 11], []⟩, ⟨[], [2], []⟩, ⟨[], [2], []⟩]
theorem b_wal_view_synced : Body Try.prog 65 [] h_wal_view_synced c_wal_view_synced 20 [.tmp 2] := body_of Try.func65 (by kernel_rfl) (by kernel_rfl) (by kernel_rfl) (by kernel_rfl)
def c_ref04_synced : C := (.seq (.seq (.reg ([⟨some 1, .box 26 (.tmp 0), none⟩, ⟨some 2, .assign (.const (.int .i64 0)), none⟩])) (.keep [1])) (.seq (.seq (.reg ([⟨some 6, .fieldAddr 26 (.tmp 1) 0, none⟩, ⟨some 7, .fieldAddr 24 (.tmp 6) 0, none⟩, ⟨some 8, .load 22 (.tmp 7), none⟩, ⟨some 9, .call { callee := .value (.func 98), args := #[(.tmp 8)], argTypes := #[22] }, none⟩, ⟨some 5, .move (.tmp 9), none⟩, ⟨some 10, .extract (.tmp 5) 0, none⟩, ⟨some 11, .extract (.tmp 5) 1, none⟩, ⟨some 3, .assign (.tmp 10), none⟩, ⟨some 4, .assign (.tmp 11), none⟩])) (.keep [1, 3])) (.seq (.seq (.reg ([⟨some 12, .fieldAddr 26 (.tmp 1) 1, none⟩, ⟨some 13, .load 3 (.tmp 12), none⟩, ⟨some 14, .move (.tmp 3), none⟩, ⟨some 15, .call { callee := .builtin .len, args := #[(.tmp 14)], argTypes := #[34] }, none⟩, ⟨some 16, .binOp .add 3 (.tmp 13) (.tmp 15) 3, none⟩, ⟨some 2, .assign (.tmp 16), none⟩])) (.keep [2])) .ret)))
attribute [go_sem ↓] c_ref04_synced
def c_ref04_Has : C := (.seq (.seq (.reg ([⟨some 1, .box 24 (.tmp 0), none⟩, ⟨some 2, .assign (.const (.slice none 0 0)), none⟩, ⟨some 3, .assign (.const (.int .i64 0)), none⟩])) (.keep [1])) (.seq (.seq (.reg ([⟨some 4, .load 24 (.tmp 1), none⟩, ⟨some 5, .call { callee := .value (.func 60), args := #[(.tmp 4)], argTypes := #[24] }, none⟩, ⟨some 6, .call { callee := .value (.func 98), args := #[(.tmp 5)], argTypes := #[22] }, none⟩, ⟨some 7, .extract (.tmp 6) 0, none⟩, ⟨some 8, .extract (.tmp 6) 1, none⟩, ⟨some 2, .assign (.tmp 7), none⟩, ⟨some 3, .assign (.tmp 8), none⟩])) (.keep [2, 3])) .ret))
attribute [go_sem ↓] c_ref04_Has
def c_wal_bytes : C := (.seq (.seq (.reg ([⟨some 1, .box 24 (.tmp 0), none⟩, ⟨some 2, .assign (.const (.slice none 0 0)), none⟩])) (.keep [1])) (.seq (.seq (.reg ([⟨some 3, .fieldAddr 24 (.tmp 1) 0, none⟩, ⟨some 4, .load 22 (.tmp 3), none⟩, ⟨some 5, .fieldAddr 24 (.tmp 1) 1, none⟩, ⟨some 6, .load 22 (.tmp 5), none⟩, ⟨some 7, .buildSlice 94 2 #[(0, (.tmp 4)), (1, (.tmp 6))], none⟩, ⟨some 8, .call { callee := .value (.func 99), args := #[(.tmp 7)], argTypes := #[94] }, none⟩, ⟨some 2, .assign (.tmp 8), none⟩])) (.keep [2])) .ret))
attribute [go_sem ↓] c_wal_bytes
def h_wal_bytes : List Hint := [⟨[], [1], []⟩, ⟨[], [2], []⟩]
theorem b_wal_bytes : Body Try.prog 76 [] h_wal_bytes c_wal_bytes 9 [.tmp 2] := body_of Try.func76 (by kernel_rfl) (by kernel_rfl) (by kernel_rfl) (by kernel_rfl)
def c_wal_view_with : C := (.seq (.seq (.reg ([⟨some 4, .box 106 (.tmp 0), none⟩, ⟨some 5, .box 24 (.tmp 1), none⟩, ⟨some 8, .alloc 26, none⟩])) (.keep [2, 3, 5, 8])) (.seq (.seq (.reg ([⟨some 9, .load 24 (.tmp 5), none⟩, ⟨some 10, .move (.tmp 2), none⟩, ⟨some 11, .move (.tmp 3), none⟩, ⟨some 12, .build 26 #[(0, (.tmp 9)), (1, (.tmp 10)), (2, (.tmp 11))], none⟩, ⟨none, .store 26 (.tmp 8) (.tmp 12), none⟩])) (.keep [8])) .ret))
attribute [go_sem ↓] c_wal_view_with
def h_wal_view_with : List Hint := [⟨[], [2, 3, 5, 8], []⟩, ⟨[], [8], []⟩]
theorem b_wal_view_with : Body Try.prog 89 [] h_wal_view_with c_wal_view_with 13 [.cell 8 26] := body_of Try.func89 (by kernel_rfl) (by kernel_rfl) (by kernel_rfl) (by kernel_rfl)
def c_wal_view_size : C := (.seq (.seq (.reg ([⟨some 2, .box 106 (.tmp 0), none⟩, ⟨some 4, .assign (.const (.int .i64 0)), none⟩])) (.keep [1, 2])) (.seq (.seq (.reg ([⟨some 5, .assign (.const (.int .i64 0)), none⟩])) (.keep [1, 2, 5])) (.seq (.seq (.seq (.reg ([⟨some 10, .fieldAddr 106 (.tmp 2) 1, none⟩, ⟨some 11, .load 34 (.tmp 10), none⟩, ⟨some 12, .move (.tmp 1), none⟩, ⟨some 13, .fieldAddr 106 (.tmp 2) 0, none⟩, ⟨some 14, .fieldAddr 26 (.tmp 13) 1, none⟩, ⟨some 15, .load 3 (.tmp 14), none⟩, ⟨some 16, .binOp .sub 3 (.tmp 12) (.tmp 15) 3, none⟩, ⟨some 17, .slice 34 (.tmp 11) none (some (.tmp 16)) none, none⟩, ⟨some 18, .call { callee := .builtin .len, args := #[(.tmp 17)], argTypes := #[34] }, none⟩, ⟨some 19, .move (.const (.int .i64 0)), none⟩])) (.keep [5, 17, 18, 19])) (.block 0 (.loop [] [5, 17, 18, 19] (.seq (.seq (.reg ([⟨some 20, .binOp .lss 3 (.tmp 19) (.tmp 18) 3, none⟩])) (.keep [5, 17, 18, 19, 20])) (.seq (.cond (.tmp 20) .skip (.exit 0)) (.seq (.block 1 (.seq (.seq (.reg ([⟨some 21, .indexAddr 34 (.tmp 17) (.tmp 19), none⟩, ⟨some 22, .load 100 (.tmp 21), none⟩, ⟨some 7, .alloc 100, none⟩, ⟨none, .store 100 (.tmp 7) (.tmp 22), none⟩])) (.keep [5, 7, 17, 18, 19])) (.seq (.seq (.reg ([⟨some 24, .load 100 (.tmp 7), none⟩, ⟨some 25, .call { callee := .value (.func 113), args := #[(.tmp 24)], argTypes := #[100] }, none⟩, ⟨some 23, .move (.tmp 25), none⟩, ⟨some 26, .extract (.tmp 23) 0, none⟩, ⟨some 27, .extract (.tmp 23) 1, none⟩, ⟨some 8, .assign (.tmp 26), none⟩, ⟨some 9, .assign (.tmp 27), none⟩])) (.keep [5, 8, 17, 18, 19])) (.seq (.reg ([⟨some 28, .move (.tmp 5), none⟩, ⟨some 29, .move (.tmp 8), none⟩, ⟨some 30, .binOp .add 3 (.tmp 28) (.tmp 29) 3, none⟩, ⟨some 5, .assign (.tmp 30), none⟩])) (.keep [5, 17, 18, 19]))))) (.seq (.reg ([⟨some 31, .binOp .add 3 (.tmp 19) (.const (.int .i64 1)) 3, none⟩, ⟨some 19, .move (.tmp 31), none⟩])) (.keep [5, 17, 18, 19])))))))) (.seq (.seq (.reg ([⟨some 32, .move (.tmp 5), none⟩, ⟨some 4, .assign (.tmp 32), none⟩])) (.keep [4])) .ret))))
attribute [go_sem ↓] c_wal_view_size
def h_wal_view_size : List Hint := [⟨[], [1, 2], []⟩, ⟨[], [1, 2, 5], []⟩, ⟨[], [5, 17, 18, 19], []⟩, ⟨[], [5, 17, 18, 19], []⟩, ⟨[], [5, 17, 18, 19, 20], []⟩, ⟨[], [5, 7, 17, 18, 19], []⟩, ⟨[], [5, 8, 17, 18, 19], []⟩, ⟨[], [5, 17, 18, 19], []⟩, ⟨[], [5, 17, 18, 19], []⟩, ⟨[], [4], []⟩]
theorem b_wal_view_size : Body Try.prog 94 [] h_wal_view_size c_wal_view_size 33 [.tmp 4] := body_of Try.func94 (by kernel_rfl) (by kernel_rfl) (by kernel_rfl) (by kernel_rfl)
def c_wal_view_synced_1 : C := (.seq (.seq (.reg ([⟨some 2, .box 100 (.tmp 0), none⟩, ⟨some 3, .assign (.const (.bool false)), none⟩])) (.keep [1, 2])) (.seq (.seq (.draw ([⟨⟨some 4, .load 106 (.tmp 1), none⟩, []⟩, ⟨⟨some 5, .fieldAddr 100 (.tmp 2) 0, none⟩, [0]⟩, ⟨⟨some 6, .load 3 (.tmp 5), none⟩, [0]⟩, ⟨⟨some 7, .binOp .add 3 (.tmp 6) (.const (.int .i64 1)) 3, none⟩, [0]⟩, ⟨⟨some 8, .call { callee := .value (.func 94), args := #[(.tmp 4), (.tmp 7)], argTypes := #[106, 3] }, none⟩, []⟩, ⟨⟨some 9, .fieldAddr 106 (.tmp 1) 0, none⟩, [0, 1, 2, 3, 4]⟩, ⟨⟨some 10, .fieldAddr 26 (.tmp 9) 0, none⟩, [0, 1, 2, 3, 4]⟩, ⟨⟨some 11, .fieldAddr 24 (.tmp 10) 0, none⟩, [0, 1, 2, 3, 4]⟩, ⟨⟨some 12, .load 22 (.tmp 11), none⟩, [0, 1, 2, 3, 4]⟩, ⟨⟨some 13, .call { callee := .builtin .len, args := #[(.tmp 12)], argTypes := #[22] }, none⟩, [0, 1, 2, 3, 4]⟩, ⟨⟨some 14, .binOp .gtr 3 (.tmp 8) (.tmp 13) 3, none⟩, []⟩, ⟨⟨some 3, .assign (.tmp 14), none⟩, []⟩])) (.keep [3])) .ret))
attribute [go_sem ↓] c_wal_view_synced_1
def h_wal_view_synced_1 : List Hint := [⟨[], [1, 2], []⟩, ⟨[], [3], []⟩]
theorem b_wal_view_synced_1 : Body Try.prog 96 [] h_wal_view_synced_1 c_wal_view_synced_1 15 [.tmp 3] := body_of Try.func96 (by kernel_rfl) (by kernel_rfl) (by kernel_rfl) (by kernel_rfl)

end Go.Proofs.Ytdpnjhooehadmaa.Pm

/-! PmWa -/
set_option linter.all false
set_option maxRecDepth 100000
set_option maxHeartbeats 2000000
namespace Go.Proofs.Ytdpnjhooehadmaa.Pm
open Go Go.RowKit

/-- A log. -/
structure WLog where
  dev : Dev
  first : Int
  next : Int
  deriving DecidableEq
def WLog.cells (l : WLog) : List T := [.sl (bT l.dev.syn), .sl (bT l.dev.tail), .i .i64 l.dev.cap, .b l.dev.down, .i .i64 l.first, .i .i64 l.next]
attribute [go_sem] WLog.cells
def WLog.recs (l : WLog) : List Rec := scanL l.dev.all
def WLog.fine (l : WLog) : Prop := l.dev.small ∧ -9223372036854775808 ≤ l.first ∧ l.first ≤ 9223372036854775807 ∧ -9223372036854775808 ≤ l.next ∧ l.next ≤ 9223372036854775807
/-- What a valid log is. -/
def WLog.ok (l : WLog) : Prop := l.dev.check = 0 ∧ l.dev.down = false ∧ (catR l.recs).length = l.dev.all.length ∧ l.next = l.first + l.recs.length ∧
  match l.recs with
  | [] => 0 ≤ l.first ∧ l.first ≤ 1000000001
  | r :: _ => r.num = l.first
instance (l : WLog) : Decidable l.ok := by
  unfold WLog.ok
  cases l.recs <;> infer_instance
def WLog.chk (l : WLog) : Int := if l.ok then 0 else 8
def viewV (l : WLog) : AV := .agg [.t (.sl (bT l.dev.syn)) false, .t (.sl (bT l.dev.tail)) false, .t (.i .i64 l.dev.cap) true, .t (.b l.dev.down) true, .t (.i .i64 l.first) true, .t (.i .i64 l.next) true, .t (.sl (recsT l.recs)) true]
theorem s_wal_bytes (d : Dev) (hd : d.small) : Spec Try.prog 76 [.agg d.cells] [.row 0 1 (bT d.all) true] (.row 0 0 0 d.all.length) := by
  refine spec_ko (hold mixed) b_wal_bytes [.row 0 1 (bT d.all) true] [.row 0 0 0 d.all.length] ?_
  have s1 := hd.1
  have s2 := hd.2
  have hl : catL [d.syn, d.tail] = d.all.length := by simp [catL, Dev.all]
  have hl2 : d.all.length ≤ 200000 := by simp [Dev.all]; omega
  have hf : [d.syn, d.tail].flatten = d.all := by simp [Dev.all]
  simp -implicitDefEqProofs only [go_sem, reduceIte, Nat.reduceAdd, Nat.reduceSub, Nat.reduceMul, Nat.reduceLT, Nat.reduceLeDiff, Nat.reduceEqDiff, Nat.reduceBEq, Int.reduceLE, Int.reduceLT, Int.reduceToNat, Int.reduceMul, Int.reduceAdd, Int.reduceSub, Int.reduceNeg, Int.reduceEq, reduceCtorEq, Nat.reduceMod]
  first | refine call_k (s_slices_Concat [d.syn, d.tail] (by simp) (by omega)) ?_ (by simp -implicitDefEqProofs only [go_sem, reduceIte, Nat.reduceAdd, Nat.reduceSub, Nat.reduceMul, Nat.reduceLT, Nat.reduceLeDiff, Nat.reduceEqDiff, Nat.reduceBEq, Int.reduceLE, Int.reduceLT, Int.reduceToNat, Int.reduceMul, Int.reduceAdd, Int.reduceSub, Int.reduceNeg, Int.reduceEq, reduceCtorEq, Nat.reduceMod, catE, List.map]) | refine call_d (s_slices_Concat [d.syn, d.tail] (by simp) (by omega)) ?_ (by simp -implicitDefEqProofs only [go_sem, reduceIte, Nat.reduceAdd, Nat.reduceSub, Nat.reduceMul, Nat.reduceLT, Nat.reduceLeDiff, Nat.reduceEqDiff, Nat.reduceBEq, Int.reduceLE, Int.reduceLT, Int.reduceToNat, Int.reduceMul, Int.reduceAdd, Int.reduceSub, Int.reduceNeg, Int.reduceEq, reduceCtorEq, Nat.reduceMod, catE, List.map])
  rw [hf, hl]
  simp -implicitDefEqProofs only [go_sem, reduceIte, Nat.reduceAdd, Nat.reduceSub, Nat.reduceMul, Nat.reduceLT, Nat.reduceLeDiff, Nat.reduceEqDiff, Nat.reduceBEq, Int.reduceLE, Int.reduceLT, Int.reduceToNat, Int.reduceMul, Int.reduceAdd, Int.reduceSub, Int.reduceNeg, Int.reduceEq, reduceCtorEq, Nat.reduceMod]
  refine ends_mk [2] ?_ ?_
  · simp -implicitDefEqProofs only [go_sem, reduceIte, Nat.reduceAdd, Nat.reduceSub, Nat.reduceMul, Nat.reduceLT, Nat.reduceLeDiff, Nat.reduceEqDiff, Nat.reduceBEq, Int.reduceLE, Int.reduceLT, Int.reduceToNat, Int.reduceMul, Int.reduceAdd, Int.reduceSub, Int.reduceNeg, Int.reduceEq, reduceCtorEq, Nat.reduceMod, bT_take_self]
  · simp -implicitDefEqProofs only [go_sem, reduceIte, Nat.reduceAdd, Nat.reduceSub, Nat.reduceMul, Nat.reduceLT, Nat.reduceLeDiff, Nat.reduceEqDiff, Nat.reduceBEq, Int.reduceLE, Int.reduceLT, Int.reduceToNat, Int.reduceMul, Int.reduceAdd, Int.reduceSub, Int.reduceNeg, Int.reduceEq, reduceCtorEq, Nat.reduceMod]
theorem bytes_count {bs : List (BitVec 8)} {m : List Rec} (h : ScanOK bs m) : m.length ≤ bs.length := by
  obtain ⟨q, hq⟩ := h.bytes
  have h1 : ∀ l : List Rec, l.length ≤ (catR l).length := by
    intro l
    induction l with
    | nil => exact Nat.zero_le _
    | cons r l ih =>
      have : (catR (r :: l)).length = (bytesL r).length + (catR l).length := by simp [catR]
      rw [this, bytesL_length, List.length_cons]
      omega
  have := h1 m
  rw [hq, List.length_append]
  omega
theorem rec_num {bs : List (BitVec 8)} {r : Rec} (h : r ∈ scanL bs) : 0 ≤ r.num ∧ r.num ≤ 1000000000 := by
  have := (scanL_ok bs).ok r h
  obtain ⟨h0, h1, _⟩ := r.ok_iff.1 this
  exact ⟨h0, h1⟩
def zeroV : T := .agg [.sl [], .sl [], .i .i64 0, .b false, .i .i64 0, .i .i64 0, .sl []]
theorem s_wal_look_ok (l : WLog) (hl : l.fine) (h : l.ok) : Spec Try.prog 64 [.agg l.cells] [] (.tup [viewV l, .t (.i .i64 0) true]) := by
  refine spec_ko (hold mixed) b_wal_look [] [viewV l, .t (.i .i64 0) true] ?_
  obtain ⟨hd, f0, f1, n0, n1⟩ := hl
  obtain ⟨hc, hdn, hu, hnx, hfi⟩ := h
  simp -implicitDefEqProofs only [go_sem, reduceIte, Nat.reduceAdd, Nat.reduceSub, Nat.reduceMul, Nat.reduceLT, Nat.reduceLeDiff, Nat.reduceEqDiff, Nat.reduceBEq, Int.reduceLE, Int.reduceLT, Int.reduceToNat, Int.reduceMul, Int.reduceAdd, Int.reduceSub, Int.reduceNeg, Int.reduceEq, reduceCtorEq, Nat.reduceMod]
  refine call_k (s_disk_Check l.dev hd) ?_
  obtain ⟨k1, k2, k3⟩ := l.dev.ok_of hc
  have hal : (l.dev.all.length : Int) = l.dev.syn.length + l.dev.tail.length := by simp [Dev.all]
  have hsm := bytes_count (scanL_ok l.dev.all)
  simp -implicitDefEqProofs only [go_sem, reduceIte, Nat.reduceAdd, Nat.reduceSub, Nat.reduceMul, Nat.reduceLT, Nat.reduceLeDiff, Nat.reduceEqDiff, Nat.reduceBEq, Int.reduceLE, Int.reduceLT, Int.reduceToNat, Int.reduceMul, Int.reduceAdd, Int.reduceSub, Int.reduceNeg, Int.reduceEq, reduceCtorEq, Nat.reduceMod, Int.reduceBNe, Int.reduceBEq, Int.reduceGT, Int.reduceGE, Int.reduceNe, Int.cast_ofNat_Int, Int.natCast_zero, Int.natCast_one, bne_self_eq_false, gt_iff_lt, ge_iff_le, Int.lt_irrefl, Int.le_refl, hc, hdn]
  refine call_k (s_wal_bytes l.dev hd) ?_ (by simp -implicitDefEqProofs only [go_sem, reduceIte, Nat.reduceAdd, Nat.reduceSub, Nat.reduceMul, Nat.reduceLT, Nat.reduceLeDiff, Nat.reduceEqDiff, Nat.reduceBEq, Int.reduceLE, Int.reduceLT, Int.reduceToNat, Int.reduceMul, Int.reduceAdd, Int.reduceSub, Int.reduceNeg, Int.reduceEq, reduceCtorEq, Nat.reduceMod, hdn])
  simp -implicitDefEqProofs only [go_sem, reduceIte, Nat.reduceAdd, Nat.reduceSub, Nat.reduceMul, Nat.reduceLT, Nat.reduceLeDiff, Nat.reduceEqDiff, Nat.reduceBEq, Int.reduceLE, Int.reduceLT, Int.reduceToNat, Int.reduceMul, Int.reduceAdd, Int.reduceSub, Int.reduceNeg, Int.reduceEq, reduceCtorEq, Nat.reduceMod, Int.reduceBNe, Int.reduceBEq, Int.reduceGT, Int.reduceGE, Int.reduceNe, Int.cast_ofNat_Int, Int.natCast_zero, Int.natCast_one, bne_self_eq_false, gt_iff_lt, ge_iff_le, Int.lt_irrefl, Int.le_refl]
  refine call_k (s_frame_Scan_ok l.dev.all (by omega)) ?_ (by simp -implicitDefEqProofs only [go_sem, reduceIte, Nat.reduceAdd, Nat.reduceSub, Nat.reduceMul, Nat.reduceLT, Nat.reduceLeDiff, Nat.reduceEqDiff, Nat.reduceBEq, Int.reduceLE, Int.reduceLT, Int.reduceToNat, Int.reduceMul, Int.reduceAdd, Int.reduceSub, Int.reduceNeg, Int.reduceEq, reduceCtorEq, Nat.reduceMod, bT_take_self])
  unfold WLog.recs at hu hnx hfi
  have hub : ((((catR (scanL l.dev.all)).length : Nat) : Int) != ((l.dev.all.length : Nat) : Int)) = false := by simp [hu]
  have hw : IntKind.i64.wrap (l.next - l.first) = (((scanL l.dev.all).length : Nat) : Int) := by rw [IntKind.wrap_i64]; omega
  have hwb : (IntKind.i64.wrap (l.next - l.first) != (((scanL l.dev.all).length : Nat) : Int)) = false := by rw [hw]; simp
  have ev : viewV l = .agg [.t (.sl (bT l.dev.syn)) false, .t (.sl (bT l.dev.tail)) false, .t (.i .i64 l.dev.cap) true, .t (.b l.dev.down) true, .t (.i .i64 l.first) true, .t (.i .i64 l.next) true, .t (.sl (recsT (scanL l.dev.all))) true] := rfl
  rw [ev]
  generalize hrec : scanL l.dev.all = rs at *
  cases rs with
  | nil =>
    have z0 : ((([] : List Rec).length : Nat) : Int) = 0 := rfl
    have c0 : (l.first < 0) = False := eq_false (by have := hfi.1; omega)
    have c1 : (l.first > 1000000001) = False := eq_false (by have := hfi.2; omega)
    have c1' : (1000000001 < l.first) = False := eq_false (by have := hfi.2; omega)
    rw [z0] at hwb
    simp -implicitDefEqProofs only [go_sem, reduceIte, Nat.reduceAdd, Nat.reduceSub, Nat.reduceMul, Nat.reduceLT, Nat.reduceLeDiff, Nat.reduceEqDiff, Nat.reduceBEq, Int.reduceLE, Int.reduceLT, Int.reduceToNat, Int.reduceMul, Int.reduceAdd, Int.reduceSub, Int.reduceNeg, Int.reduceEq, reduceCtorEq, Nat.reduceMod, Int.reduceBNe, Int.reduceBEq, Int.reduceGT, Int.reduceGE, Int.reduceNe, Int.cast_ofNat_Int, Int.natCast_zero, Int.natCast_one, bne_self_eq_false, gt_iff_lt, ge_iff_le, Int.lt_irrefl, Int.le_refl, hub, recsT_length, hwb, z0, c0, c1, c1']
    refine ends_mk [] ?_ ?_
    · simp -implicitDefEqProofs only [go_sem, reduceIte, Nat.reduceAdd, Nat.reduceSub, Nat.reduceMul, Nat.reduceLT, Nat.reduceLeDiff, Nat.reduceEqDiff, Nat.reduceBEq, Int.reduceLE, Int.reduceLT, Int.reduceToNat, Int.reduceMul, Int.reduceAdd, Int.reduceSub, Int.reduceNeg, Int.reduceEq, reduceCtorEq, Nat.reduceMod]
    · simp -implicitDefEqProofs only [go_sem, reduceIte, Nat.reduceAdd, Nat.reduceSub, Nat.reduceMul, Nat.reduceLT, Nat.reduceLeDiff, Nat.reduceEqDiff, Nat.reduceBEq, Int.reduceLE, Int.reduceLT, Int.reduceToNat, Int.reduceMul, Int.reduceAdd, Int.reduceSub, Int.reduceNeg, Int.reduceEq, reduceCtorEq, Nat.reduceMod, hdn]
  | cons r rs =>
    have hfi : r.num = l.first := hfi
    have z0 : ((((r :: rs).length : Nat) : Int) == 0) = false := by simp; omega
    have z1 : (((r :: rs).length : Nat) : Int) > 0 := by rw [List.length_cons]; omega
    have z2 : (0 < (((r :: rs).length : Nat) : Int)) = True := eq_true z1
    have z3 : (recsT (r :: rs))[0]? = some r.cells := rfl
    rw [List.length_cons] at hwb z0 z1 z2
    have fb : (l.first != l.first) = false := by simp
    simp -implicitDefEqProofs only [go_sem, reduceIte, Nat.reduceAdd, Nat.reduceSub, Nat.reduceMul, Nat.reduceLT, Nat.reduceLeDiff, Nat.reduceEqDiff, Nat.reduceBEq, Int.reduceLE, Int.reduceLT, Int.reduceToNat, Int.reduceMul, Int.reduceAdd, Int.reduceSub, Int.reduceNeg, Int.reduceEq, reduceCtorEq, Nat.reduceMod, Int.reduceBNe, Int.reduceBEq, Int.reduceGT, Int.reduceGE, Int.reduceNe, Int.cast_ofNat_Int, Int.natCast_zero, Int.natCast_one, bne_self_eq_false, gt_iff_lt, ge_iff_le, Int.lt_irrefl, Int.le_refl, hub, recsT_length, hwb, z0, z1, z2, z3, Rec.cells, hfi, fb]
    refine ends_mk [] ?_ ?_
    · simp -implicitDefEqProofs only [go_sem, reduceIte, Nat.reduceAdd, Nat.reduceSub, Nat.reduceMul, Nat.reduceLT, Nat.reduceLeDiff, Nat.reduceEqDiff, Nat.reduceBEq, Int.reduceLE, Int.reduceLT, Int.reduceToNat, Int.reduceMul, Int.reduceAdd, Int.reduceSub, Int.reduceNeg, Int.reduceEq, reduceCtorEq, Nat.reduceMod]
    · simp -implicitDefEqProofs only [go_sem, reduceIte, Nat.reduceAdd, Nat.reduceSub, Nat.reduceMul, Nat.reduceLT, Nat.reduceLeDiff, Nat.reduceEqDiff, Nat.reduceBEq, Int.reduceLE, Int.reduceLT, Int.reduceToNat, Int.reduceMul, Int.reduceAdd, Int.reduceSub, Int.reduceNeg, Int.reduceEq, reduceCtorEq, Nat.reduceMod, hdn]
theorem s_wal_look_bad (l : WLog) (hl : l.fine) (h : ¬ l.ok) : Spec Try.prog 64 [.agg l.cells] [] (.tup [.t zeroV true, .t (.i .i64 8) true]) := by
  refine spec_k (hold mixed) b_wal_look [(zeroV, true), (.i .i64 8, true)] ?_
  obtain ⟨hd, f0, f1, n0, n1⟩ := hl
  have hc8 : l.dev.check = 8 ∨ l.dev.check = 0 := by unfold Dev.check; split <;> simp
  simp -implicitDefEqProofs only [go_sem, reduceIte, Nat.reduceAdd, Nat.reduceSub, Nat.reduceMul, Nat.reduceLT, Nat.reduceLeDiff, Nat.reduceEqDiff, Nat.reduceBEq, Int.reduceLE, Int.reduceLT, Int.reduceToNat, Int.reduceMul, Int.reduceAdd, Int.reduceSub, Int.reduceNeg, Int.reduceEq, reduceCtorEq, Nat.reduceMod]
  refine call_k (s_disk_Check l.dev hd) ?_
  rcases hc8 with hc | hc
  · simp -implicitDefEqProofs only [go_sem, reduceIte, Nat.reduceAdd, Nat.reduceSub, Nat.reduceMul, Nat.reduceLT, Nat.reduceLeDiff, Nat.reduceEqDiff, Nat.reduceBEq, Int.reduceLE, Int.reduceLT, Int.reduceToNat, Int.reduceMul, Int.reduceAdd, Int.reduceSub, Int.reduceNeg, Int.reduceEq, reduceCtorEq, Nat.reduceMod, Int.reduceBNe, Int.reduceBEq, Int.reduceGT, Int.reduceGE, Int.reduceNe, Int.cast_ofNat_Int, Int.natCast_zero, Int.natCast_one, bne_self_eq_false, gt_iff_lt, ge_iff_le, Int.lt_irrefl, Int.le_refl, hc, zeroV]
  by_cases hdn : l.dev.down = true
  · simp -implicitDefEqProofs only [go_sem, reduceIte, Nat.reduceAdd, Nat.reduceSub, Nat.reduceMul, Nat.reduceLT, Nat.reduceLeDiff, Nat.reduceEqDiff, Nat.reduceBEq, Int.reduceLE, Int.reduceLT, Int.reduceToNat, Int.reduceMul, Int.reduceAdd, Int.reduceSub, Int.reduceNeg, Int.reduceEq, reduceCtorEq, Nat.reduceMod, Int.reduceBNe, Int.reduceBEq, Int.reduceGT, Int.reduceGE, Int.reduceNe, Int.cast_ofNat_Int, Int.natCast_zero, Int.natCast_one, bne_self_eq_false, gt_iff_lt, ge_iff_le, Int.lt_irrefl, Int.le_refl, hc, hdn, zeroV]
  replace hdn : l.dev.down = false := by simpa using hdn
  obtain ⟨k1, k2, k3⟩ := l.dev.ok_of hc
  have hal : (l.dev.all.length : Int) = l.dev.syn.length + l.dev.tail.length := by simp [Dev.all]
  simp -implicitDefEqProofs only [go_sem, reduceIte, Nat.reduceAdd, Nat.reduceSub, Nat.reduceMul, Nat.reduceLT, Nat.reduceLeDiff, Nat.reduceEqDiff, Nat.reduceBEq, Int.reduceLE, Int.reduceLT, Int.reduceToNat, Int.reduceMul, Int.reduceAdd, Int.reduceSub, Int.reduceNeg, Int.reduceEq, reduceCtorEq, Nat.reduceMod, Int.reduceBNe, Int.reduceBEq, Int.reduceGT, Int.reduceGE, Int.reduceNe, Int.cast_ofNat_Int, Int.natCast_zero, Int.natCast_one, bne_self_eq_false, gt_iff_lt, ge_iff_le, Int.lt_irrefl, Int.le_refl, hc, hdn]
  refine call_k (s_wal_bytes l.dev hd) ?_ (by simp -implicitDefEqProofs only [go_sem, reduceIte, Nat.reduceAdd, Nat.reduceSub, Nat.reduceMul, Nat.reduceLT, Nat.reduceLeDiff, Nat.reduceEqDiff, Nat.reduceBEq, Int.reduceLE, Int.reduceLT, Int.reduceToNat, Int.reduceMul, Int.reduceAdd, Int.reduceSub, Int.reduceNeg, Int.reduceEq, reduceCtorEq, Nat.reduceMod, hdn])
  simp -implicitDefEqProofs only [go_sem, reduceIte, Nat.reduceAdd, Nat.reduceSub, Nat.reduceMul, Nat.reduceLT, Nat.reduceLeDiff, Nat.reduceEqDiff, Nat.reduceBEq, Int.reduceLE, Int.reduceLT, Int.reduceToNat, Int.reduceMul, Int.reduceAdd, Int.reduceSub, Int.reduceNeg, Int.reduceEq, reduceCtorEq, Nat.reduceMod, Int.reduceBNe, Int.reduceBEq, Int.reduceGT, Int.reduceGE, Int.reduceNe, Int.cast_ofNat_Int, Int.natCast_zero, Int.natCast_one, bne_self_eq_false, gt_iff_lt, ge_iff_le, Int.lt_irrefl, Int.le_refl]
  refine call_k (s_frame_Scan_ok l.dev.all (by omega)) ?_ (by simp -implicitDefEqProofs only [go_sem, reduceIte, Nat.reduceAdd, Nat.reduceSub, Nat.reduceMul, Nat.reduceLT, Nat.reduceLeDiff, Nat.reduceEqDiff, Nat.reduceBEq, Int.reduceLE, Int.reduceLT, Int.reduceToNat, Int.reduceMul, Int.reduceAdd, Int.reduceSub, Int.reduceNeg, Int.reduceEq, reduceCtorEq, Nat.reduceMod, bT_take_self])
  by_cases hub : ((((catR (scanL l.dev.all)).length : Nat) : Int) != ((l.dev.all.length : Nat) : Int)) = true
  · simp -implicitDefEqProofs only [go_sem, reduceIte, Nat.reduceAdd, Nat.reduceSub, Nat.reduceMul, Nat.reduceLT, Nat.reduceLeDiff, Nat.reduceEqDiff, Nat.reduceBEq, Int.reduceLE, Int.reduceLT, Int.reduceToNat, Int.reduceMul, Int.reduceAdd, Int.reduceSub, Int.reduceNeg, Int.reduceEq, reduceCtorEq, Nat.reduceMod, Int.reduceBNe, Int.reduceBEq, Int.reduceGT, Int.reduceGE, Int.reduceNe, Int.cast_ofNat_Int, Int.natCast_zero, Int.natCast_one, bne_self_eq_false, gt_iff_lt, ge_iff_le, Int.lt_irrefl, Int.le_refl, hub, zeroV]
  replace hub : ((((catR (scanL l.dev.all)).length : Nat) : Int) != ((l.dev.all.length : Nat) : Int)) = false := by simpa using hub
  by_cases hwb : (IntKind.i64.wrap (l.next - l.first) != (((scanL l.dev.all).length : Nat) : Int)) = true
  · simp -implicitDefEqProofs only [go_sem, reduceIte, Nat.reduceAdd, Nat.reduceSub, Nat.reduceMul, Nat.reduceLT, Nat.reduceLeDiff, Nat.reduceEqDiff, Nat.reduceBEq, Int.reduceLE, Int.reduceLT, Int.reduceToNat, Int.reduceMul, Int.reduceAdd, Int.reduceSub, Int.reduceNeg, Int.reduceEq, reduceCtorEq, Nat.reduceMod, Int.reduceBNe, Int.reduceBEq, Int.reduceGT, Int.reduceGE, Int.reduceNe, Int.cast_ofNat_Int, Int.natCast_zero, Int.natCast_one, bne_self_eq_false, gt_iff_lt, ge_iff_le, Int.lt_irrefl, Int.le_refl, hub, recsT_length, hwb, zeroV]
  replace hwb : (IntKind.i64.wrap (l.next - l.first) != (((scanL l.dev.all).length : Nat) : Int)) = false := by simpa using hwb
  have hwe : IntKind.i64.wrap (l.next - l.first) = (((scanL l.dev.all).length : Nat) : Int) := by simpa using hwb
  rw [IntKind.wrap_i64] at hwe
  have hue : (catR (scanL l.dev.all)).length = l.dev.all.length := by simp at hub; omega
  unfold WLog.ok WLog.recs at h
  have hsm := bytes_count (scanL_ok l.dev.all)
  have hrn : ∀ r ∈ scanL l.dev.all, 0 ≤ r.num ∧ r.num ≤ 1000000000 := fun r hr => rec_num hr
  generalize hrec : scanL l.dev.all = rs at *
  cases rs with
  | nil =>
    have z0 : ((([] : List Rec).length : Nat) : Int) = 0 := rfl
    rw [z0] at hwb hwe h
    by_cases c0 : l.first < 0
    · simp -implicitDefEqProofs only [go_sem, reduceIte, Nat.reduceAdd, Nat.reduceSub, Nat.reduceMul, Nat.reduceLT, Nat.reduceLeDiff, Nat.reduceEqDiff, Nat.reduceBEq, Int.reduceLE, Int.reduceLT, Int.reduceToNat, Int.reduceMul, Int.reduceAdd, Int.reduceSub, Int.reduceNeg, Int.reduceEq, reduceCtorEq, Nat.reduceMod, Int.reduceBNe, Int.reduceBEq, Int.reduceGT, Int.reduceGE, Int.reduceNe, Int.cast_ofNat_Int, Int.natCast_zero, Int.natCast_one, bne_self_eq_false, gt_iff_lt, ge_iff_le, Int.lt_irrefl, Int.le_refl, hub, recsT_length, hwb, z0, c0, zeroV]
    by_cases c1 : 1000000001 < l.first
    · simp -implicitDefEqProofs only [go_sem, reduceIte, Nat.reduceAdd, Nat.reduceSub, Nat.reduceMul, Nat.reduceLT, Nat.reduceLeDiff, Nat.reduceEqDiff, Nat.reduceBEq, Int.reduceLE, Int.reduceLT, Int.reduceToNat, Int.reduceMul, Int.reduceAdd, Int.reduceSub, Int.reduceNeg, Int.reduceEq, reduceCtorEq, Nat.reduceMod, Int.reduceBNe, Int.reduceBEq, Int.reduceGT, Int.reduceGE, Int.reduceNe, Int.cast_ofNat_Int, Int.natCast_zero, Int.natCast_one, bne_self_eq_false, gt_iff_lt, ge_iff_le, Int.lt_irrefl, Int.le_refl, hub, recsT_length, hwb, z0, c0, c1, zeroV]
    · exact absurd ⟨hc, hdn, hue, by omega, by omega, by omega⟩ h
  | cons r rs =>
    have z0 : ((((r :: rs).length : Nat) : Int) == 0) = false := by simp; omega
    have z1 : (((r :: rs).length : Nat) : Int) > 0 := by rw [List.length_cons]; omega
    have z2 : (0 < (((r :: rs).length : Nat) : Int)) = True := eq_true z1
    have z3 : (recsT (r :: rs))[0]? = some r.cells := rfl
    rw [List.length_cons] at hwb z0 z1 z2
    have hr1 := hrn r (by simp)
    by_cases fb : (r.num != l.first) = true
    · simp -implicitDefEqProofs only [go_sem, reduceIte, Nat.reduceAdd, Nat.reduceSub, Nat.reduceMul, Nat.reduceLT, Nat.reduceLeDiff, Nat.reduceEqDiff, Nat.reduceBEq, Int.reduceLE, Int.reduceLT, Int.reduceToNat, Int.reduceMul, Int.reduceAdd, Int.reduceSub, Int.reduceNeg, Int.reduceEq, reduceCtorEq, Nat.reduceMod, Int.reduceBNe, Int.reduceBEq, Int.reduceGT, Int.reduceGE, Int.reduceNe, Int.cast_ofNat_Int, Int.natCast_zero, Int.natCast_one, bne_self_eq_false, gt_iff_lt, ge_iff_le, Int.lt_irrefl, Int.le_refl, hub, recsT_length, hwb, z0, z1, z2, z3, Rec.cells, fb, zeroV]
    · have fb' : r.num = l.first := by simpa using fb
      exact absurd ⟨hc, hdn, hue, by omega, fb'⟩ h
end Go.Proofs.Ytdpnjhooehadmaa.Pm

/-! PmWb -/
set_option linter.all false
set_option maxRecDepth 100000
set_option maxHeartbeats 2000000
namespace Go.Proofs.Ytdpnjhooehadmaa.Pm
open Go Go.RowKit

theorem chk_ok {l : WLog} (h : l.ok) : l.chk = 0 := if_pos h
theorem chk_bad {l : WLog} (h : ¬ l.ok) : l.chk = 8 := if_neg h
theorem s_wal_Check (l : WLog) (hl : l.fine) : Spec Try.prog 36 [.agg l.cells] [] (.t (.i .i64 l.chk) true) := by
  refine spec_k (hold mixed) b_wal_Check [(.i .i64 l.chk, true)] ?_
  by_cases h : l.ok
  · rw [chk_ok h]
    simp -implicitDefEqProofs only [go_sem, reduceIte, Nat.reduceAdd, Nat.reduceSub, Nat.reduceMul, Nat.reduceLT, Nat.reduceLeDiff, Nat.reduceEqDiff, Nat.reduceBEq, Int.reduceLE, Int.reduceLT, Int.reduceToNat, Int.reduceMul, Int.reduceAdd, Int.reduceSub, Int.reduceNeg, Int.reduceEq, reduceCtorEq, Nat.reduceMod, Int.reduceBNe, Int.reduceBEq, Int.reduceGT, Int.reduceGE, Int.reduceNe, Int.cast_ofNat_Int, Int.natCast_zero, Int.natCast_one, bne_self_eq_false, gt_iff_lt, ge_iff_le, Int.lt_irrefl, Int.le_refl]
    refine call_k (s_wal_look_ok l hl h) ?_
    simp -implicitDefEqProofs only [go_sem, reduceIte, Nat.reduceAdd, Nat.reduceSub, Nat.reduceMul, Nat.reduceLT, Nat.reduceLeDiff, Nat.reduceEqDiff, Nat.reduceBEq, Int.reduceLE, Int.reduceLT, Int.reduceToNat, Int.reduceMul, Int.reduceAdd, Int.reduceSub, Int.reduceNeg, Int.reduceEq, reduceCtorEq, Nat.reduceMod, Int.reduceBNe, Int.reduceBEq, Int.reduceGT, Int.reduceGE, Int.reduceNe, Int.cast_ofNat_Int, Int.natCast_zero, Int.natCast_one, bne_self_eq_false, gt_iff_lt, ge_iff_le, Int.lt_irrefl, Int.le_refl, viewV]
  · rw [chk_bad h]
    simp -implicitDefEqProofs only [go_sem, reduceIte, Nat.reduceAdd, Nat.reduceSub, Nat.reduceMul, Nat.reduceLT, Nat.reduceLeDiff, Nat.reduceEqDiff, Nat.reduceBEq, Int.reduceLE, Int.reduceLT, Int.reduceToNat, Int.reduceMul, Int.reduceAdd, Int.reduceSub, Int.reduceNeg, Int.reduceEq, reduceCtorEq, Nat.reduceMod, Int.reduceBNe, Int.reduceBEq, Int.reduceGT, Int.reduceGE, Int.reduceNe, Int.cast_ofNat_Int, Int.natCast_zero, Int.natCast_one, bne_self_eq_false, gt_iff_lt, ge_iff_le, Int.lt_irrefl, Int.le_refl]
    refine call_k (s_wal_look_bad l hl h) ?_
    simp -implicitDefEqProofs only [go_sem, reduceIte, Nat.reduceAdd, Nat.reduceSub, Nat.reduceMul, Nat.reduceLT, Nat.reduceLeDiff, Nat.reduceEqDiff, Nat.reduceBEq, Int.reduceLE, Int.reduceLT, Int.reduceToNat, Int.reduceMul, Int.reduceAdd, Int.reduceSub, Int.reduceNeg, Int.reduceEq, reduceCtorEq, Nat.reduceMod, Int.reduceBNe, Int.reduceBEq, Int.reduceGT, Int.reduceGE, Int.reduceNe, Int.cast_ofNat_Int, Int.natCast_zero, Int.natCast_one, bne_self_eq_false, gt_iff_lt, ge_iff_le, Int.lt_irrefl, Int.le_refl, zeroV]
theorem row_num {bs : List (BitVec 8)} {m : List Rec} (h : ScanOK bs m) : ∀ (k : Nat) (hk : k < m.length), m[k].num = (m[0]'(by omega)).num + k
  | 0, hk => by simp
  | k + 1, hk => by
    rw [h.row k hk, row_num h k (by omega)]
    omega
end Go.Proofs.Ytdpnjhooehadmaa.Pm

/-! PmWc -/
set_option linter.all false
set_option maxRecDepth 100000
set_option maxHeartbeats 2000000
namespace Go.Proofs.Ytdpnjhooehadmaa.Pm
open Go Go.RowKit

def viewC (l : WLog) : List T := [.sl (bT l.dev.syn), .sl (bT l.dev.tail), .i .i64 l.dev.cap, .b l.dev.down, .i .i64 l.first, .i .i64 l.next, .sl (recsT l.recs)]
theorem catR_lstep {m : List Rec} {k : Nat} (h : k < m.length) : (catR (m.take (k + 1))).length = (catR (m.take k)).length + (12 + m[k].data.length) := by
  rw [← List.take_append_getElem h, catR_append, catR_one, List.length_append, bytesL_length]
theorem ok_bounds {l : WLog} (h : l.ok) : 0 ≤ l.first ∧ l.first ≤ 1000000001 ∧ l.recs.length ≤ 20000 := by
  obtain ⟨hc, hdn, hu, hnx, hfi⟩ := h
  obtain ⟨k1, k2, k3⟩ := l.dev.ok_of hc
  have hal : (l.dev.all.length : Int) = l.dev.syn.length + l.dev.tail.length := by simp [Dev.all]
  have hsm := bytes_count (scanL_ok l.dev.all)
  have hrn : ∀ r ∈ scanL l.dev.all, 0 ≤ r.num ∧ r.num ≤ 1000000000 := fun r hr => rec_num hr
  unfold WLog.recs at *
  generalize hrec : scanL l.dev.all = rs at *
  cases rs with
  | nil => exact ⟨hfi.1, hfi.2, by omega⟩
  | cons r rs =>
    have h1 := hrn r (by simp)
    have : r.num = l.first := hfi
    exact ⟨by omega, by omega, by omega⟩
theorem catR_take_le (m : List Rec) (k : Nat) : (catR (m.take k)).length ≤ (catR m).length := by
  conv => rhs; rw [← List.take_append_drop k m]
  rw [catR_append, List.length_append]
  omega
theorem s_wal_view_size (l : WLog) (h : l.ok) (n : Nat) (hn : n ≤ l.recs.length) : Spec Try.prog 94 [.agg (viewC l), .i .i64 (l.first + n)] [] (.t (.i .i64 (catR (l.recs.take n)).length) true) := by
  refine spec_k (hold mixed) b_wal_view_size [(.i .i64 (catR (l.recs.take n)).length, true)] ?_
  obtain ⟨b0, b1, b2⟩ := ok_bounds h
  have hw : IntKind.i64.wrap (l.first + (n : Int) - l.first) = n := by rw [wrap_i64_id (by omega) (by omega)]; omega
  have e0 : ((n : Int) - 0).toNat = n := by omega
  have htk : List.take n (recsT l.recs) = recsT (l.recs.take n) := by simp [recsT, List.map_take]
  have hln : (l.recs.take n).length = n := by rw [List.length_take]; omega
  simp -implicitDefEqProofs only [go_sem, reduceIte, Nat.reduceAdd, Nat.reduceSub, Nat.reduceMul, Nat.reduceLT, Nat.reduceLeDiff, Nat.reduceEqDiff, Nat.reduceBEq, Int.reduceLE, Int.reduceLT, Int.reduceToNat, Int.reduceMul, Int.reduceAdd, Int.reduceSub, Int.reduceNeg, Int.reduceEq, reduceCtorEq, Nat.reduceMod, Int.reduceBNe, Int.reduceBEq, Int.reduceGT, Int.reduceGE, Int.reduceNe, Int.cast_ofNat_Int, Int.natCast_zero, Int.natCast_one, bne_self_eq_false, gt_iff_lt, ge_iff_le, Int.lt_irrefl, Int.le_refl, viewC, hw, e0, htk, recsT_length, hln]
  refine ⟨⟨by omega, .inl trivial⟩, ?_⟩
  refine loop_l (α := Nat) (fun k => ⟨tmL [(5, .t (.i .i64 (catR (l.recs.take k)).length) true), (17, .t (.sl (recsT (l.recs.take n))) false), (18, .t (.i .i64 n) true), (19, .t (.i .i64 k) true)],
    [.var [.t (.sl (bT l.dev.syn)) false, .t (.sl (bT l.dev.tail)) false, .t (.i .i64 l.dev.cap) false, .t (.b l.dev.down) false, .t (.i .i64 l.first) false, .t (.i .i64 l.next) false, .t (.sl (recsT l.recs)) false]]⟩) (fun k => n - k) (fun k => k ≤ n) 0 (by simp -implicitDefEqProofs only [go_sem, reduceIte, Nat.reduceAdd, Nat.reduceSub, Nat.reduceMul, Nat.reduceLT, Nat.reduceLeDiff, Nat.reduceEqDiff, Nat.reduceBEq, Int.reduceLE, Int.reduceLT, Int.reduceToNat, Int.reduceMul, Int.reduceAdd, Int.reduceSub, Int.reduceNeg, Int.reduceEq, reduceCtorEq, Nat.reduceMod, catR]; rfl) (Nat.zero_le _) ?_
  intro k hk R hR
  simp -implicitDefEqProofs only [go_sem, reduceIte, Nat.reduceAdd, Nat.reduceSub, Nat.reduceMul, Nat.reduceLT, Nat.reduceLeDiff, Nat.reduceEqDiff, Nat.reduceBEq, Int.reduceLE, Int.reduceLT, Int.reduceToNat, Int.reduceMul, Int.reduceAdd, Int.reduceSub, Int.reduceNeg, Int.reduceEq, reduceCtorEq, Nat.reduceMod, Int.reduceBNe, Int.reduceBEq, Int.reduceGT, Int.reduceGE, Int.reduceNe, Int.cast_ofNat_Int, Int.natCast_zero, Int.natCast_one, bne_self_eq_false, gt_iff_lt, ge_iff_le, Int.lt_irrefl, Int.le_refl]
  refine wcond_mk (fun hh => ?_) (fun hh => ?_)
  · have hk' : k < n := by have := of_decide_eq_true hh; omega
    have hk2 : k < (l.recs.take n).length := by omega
    have hk3 : k < l.recs.length := by omega
    have hge : (l.recs.take n)[k] = l.recs[k] := List.getElem_take
    have hi : (k : Int) < (n : Int) := by omega
    have hmem := (scanL_ok l.dev.all).ok l.recs[k] (List.getElem_mem hk3)
    have hrd := (l.recs[k]).ok_iff.1 hmem
    have hS := s_frame_Size l.recs[k] (by omega)
    unfold sizeT at hS
    rw [if_pos hmem] at hS
    have hst := catR_lstep hk3
    have hcl := catR_take_le l.recs (k + 1)
    have hcu : (catR l.recs).length ≤ 20000 := by
      have := h.2.2.1
      have := l.dev.ok_of h.1
      have hal : (l.dev.all.length : Int) = l.dev.syn.length + l.dev.tail.length := by simp [Dev.all]
      omega
    have hw2 : IntKind.i64.wrap ((((catR (l.recs.take k)).length : Nat) : Int) + ((12 + l.recs[k].data.length : Nat) : Int)) = ((catR (l.recs.take (k + 1))).length : Nat) := by rw [wrap_i64_id (by omega) (by omega)]; omega
    simp -implicitDefEqProofs only [go_sem, reduceIte, Nat.reduceAdd, Nat.reduceSub, Nat.reduceMul, Nat.reduceLT, Nat.reduceLeDiff, Nat.reduceEqDiff, Nat.reduceBEq, Int.reduceLE, Int.reduceLT, Int.reduceToNat, Int.reduceMul, Int.reduceAdd, Int.reduceSub, Int.reduceNeg, Int.reduceEq, reduceCtorEq, Nat.reduceMod, Int.reduceBNe, Int.reduceBEq, Int.reduceGT, Int.reduceGE, Int.reduceNe, Int.cast_ofNat_Int, Int.natCast_zero, Int.natCast_one, bne_self_eq_false, gt_iff_lt, ge_iff_le, Int.lt_irrefl, Int.le_refl, recsT_get hk2, recsT_length, hln, hi, hge, Rec.cells]
    refine call_k hS ?_ (by simp -implicitDefEqProofs only [go_sem, reduceIte, Nat.reduceAdd, Nat.reduceSub, Nat.reduceMul, Nat.reduceLT, Nat.reduceLeDiff, Nat.reduceEqDiff, Nat.reduceBEq, Int.reduceLE, Int.reduceLT, Int.reduceToNat, Int.reduceMul, Int.reduceAdd, Int.reduceSub, Int.reduceNeg, Int.reduceEq, reduceCtorEq, Nat.reduceMod, Rec.cells])
    simp -implicitDefEqProofs only [go_sem, reduceIte, Nat.reduceAdd, Nat.reduceSub, Nat.reduceMul, Nat.reduceLT, Nat.reduceLeDiff, Nat.reduceEqDiff, Nat.reduceBEq, Int.reduceLE, Int.reduceLT, Int.reduceToNat, Int.reduceMul, Int.reduceAdd, Int.reduceSub, Int.reduceNeg, Int.reduceEq, reduceCtorEq, Nat.reduceMod, Int.reduceBNe, Int.reduceBEq, Int.reduceGT, Int.reduceGE, Int.reduceNe, Int.cast_ofNat_Int, Int.natCast_zero, Int.natCast_one, bne_self_eq_false, gt_iff_lt, ge_iff_le, Int.lt_irrefl, Int.le_refl, hw2]
    refine hR (k + 1) _ ?_ (by omega) (by omega)
    simp -implicitDefEqProofs only [go_sem, reduceIte, Nat.reduceAdd, Nat.reduceSub, Nat.reduceMul, Nat.reduceLT, Nat.reduceLeDiff, Nat.reduceEqDiff, Nat.reduceBEq, Int.reduceLE, Int.reduceLT, Int.reduceToNat, Int.reduceMul, Int.reduceAdd, Int.reduceSub, Int.reduceNeg, Int.reduceEq, reduceCtorEq, Nat.reduceMod, wrap_i64_id (show -9223372036854775808 ≤ (k : Int) + 1 by omega) (by omega), Int.natCast_add]
    rfl
  · have hk' : ¬ k < n := by have := of_decide_eq_false hh; omega
    obtain rfl : k = n := by omega
    simp -implicitDefEqProofs only [go_sem, reduceIte, Nat.reduceAdd, Nat.reduceSub, Nat.reduceMul, Nat.reduceLT, Nat.reduceLeDiff, Nat.reduceEqDiff, Nat.reduceBEq, Int.reduceLE, Int.reduceLT, Int.reduceToNat, Int.reduceMul, Int.reduceAdd, Int.reduceSub, Int.reduceNeg, Int.reduceEq, reduceCtorEq, Nat.reduceMod, Int.reduceBNe, Int.reduceBEq, Int.reduceGT, Int.reduceGE, Int.reduceNe, Int.cast_ofNat_Int, Int.natCast_zero, Int.natCast_one, bne_self_eq_false, gt_iff_lt, ge_iff_le, Int.lt_irrefl, Int.le_refl]
end Go.Proofs.Ytdpnjhooehadmaa.Pm

/-! PmWd -/
set_option linter.all false
set_option maxRecDepth 100000
set_option maxHeartbeats 2000000
namespace Go.Proofs.Ytdpnjhooehadmaa.Pm
open Go Go.RowKit

def behindB (l : WLog) (r : Rec) : Bool := decide (l.dev.syn.length < (catR (l.recs.take (r.num + 1 - l.first).toNat)).length)
theorem head_num {f : Int} : ∀ {rs : List Rec} (_ : match rs with
    | [] => 0 ≤ f ∧ f ≤ 1000000001
    | r :: _ => r.num = f) (hp : 0 < rs.length), rs[0].num = f
  | [], _, hp => absurd hp (by simp)
  | _ :: _, h, _ => h
theorem rec_at {l : WLog} (h : l.ok) {i : Nat} (hi : i < l.recs.length) : l.recs[i].num = l.first + i := by
  have h1 : l.recs[i].num = (l.recs[0]'(by omega)).num + i := row_num (scanL_ok l.dev.all) i hi
  rw [h1, head_num h.2.2.2.2 (by omega)]
theorem s_wal_view_synced_1 (l : WLog) (h : l.ok) (r : Rec) (hr : r ∈ l.recs) : Spec Try.prog 96 [.agg r.cells, .pt (viewC l)] [] (.t (.b (behindB l r)) true) := by
  refine spec_k (hold mixed) b_wal_view_synced_1 [(.b (behindB l r), true)] ?_
  obtain ⟨i, hi, rfl⟩ := List.getElem_of_mem hr
  obtain ⟨b0, b1, b2⟩ := ok_bounds h
  have hnum := rec_at h hi
  have hw : IntKind.i64.wrap (l.recs[i].num + 1) = l.first + ((i + 1 : Nat) : Int) := by rw [wrap_i64_id (by omega) (by omega)]; omega
  have he : (l.recs[i].num + 1 - l.first).toNat = i + 1 := by omega
  have hd : ((((catR (l.recs.take (i + 1))).length : Nat) : Int) > ((l.dev.syn.length : Nat) : Int)) = (l.dev.syn.length < (catR (l.recs.take (i + 1))).length) := propext (by omega)
  unfold behindB
  rw [he]
  simp -implicitDefEqProofs only [go_sem, reduceIte, Nat.reduceAdd, Nat.reduceSub, Nat.reduceMul, Nat.reduceLT, Nat.reduceLeDiff, Nat.reduceEqDiff, Nat.reduceBEq, Int.reduceLE, Int.reduceLT, Int.reduceToNat, Int.reduceMul, Int.reduceAdd, Int.reduceSub, Int.reduceNeg, Int.reduceEq, reduceCtorEq, Nat.reduceMod, Rec.cells, viewC, hw]
  first | refine call_d (s_wal_view_size l h (i + 1) (by omega)) ?_ (by simp -implicitDefEqProofs only [go_sem, reduceIte, Nat.reduceAdd, Nat.reduceSub, Nat.reduceMul, Nat.reduceLT, Nat.reduceLeDiff, Nat.reduceEqDiff, Nat.reduceBEq, Int.reduceLE, Int.reduceLT, Int.reduceToNat, Int.reduceMul, Int.reduceAdd, Int.reduceSub, Int.reduceNeg, Int.reduceEq, reduceCtorEq, Nat.reduceMod, viewC]) | refine call_k (s_wal_view_size l h (i + 1) (by omega)) ?_ (by simp -implicitDefEqProofs only [go_sem, reduceIte, Nat.reduceAdd, Nat.reduceSub, Nat.reduceMul, Nat.reduceLT, Nat.reduceLeDiff, Nat.reduceEqDiff, Nat.reduceBEq, Int.reduceLE, Int.reduceLT, Int.reduceToNat, Int.reduceMul, Int.reduceAdd, Int.reduceSub, Int.reduceNeg, Int.reduceEq, reduceCtorEq, Nat.reduceMod, viewC])
  simp -implicitDefEqProofs only [go_sem, reduceIte, Nat.reduceAdd, Nat.reduceSub, Nat.reduceMul, Nat.reduceLT, Nat.reduceLeDiff, Nat.reduceEqDiff, Nat.reduceBEq, Int.reduceLE, Int.reduceLT, Int.reduceToNat, Int.reduceMul, Int.reduceAdd, Int.reduceSub, Int.reduceNeg, Int.reduceEq, reduceCtorEq, Nat.reduceMod, hd]
def syncV (l : WLog) : Int := match l.recs.findIdx? (behindB l) with
  | some i => l.first + (i : Nat)
  | none => l.next
theorem s_wal_view_synced (l : WLog) (h : l.ok) : Spec Try.prog 65 [.agg (viewC l)] [] (.t (.i .i64 (syncV l)) true) := by
  refine spec_k (hold mixed) b_wal_view_synced [(.i .i64 (syncV l), true)] ?_
  obtain ⟨b0, b1, b2⟩ := ok_bounds h
  simp -implicitDefEqProofs only [go_sem, reduceIte, Nat.reduceAdd, Nat.reduceSub, Nat.reduceMul, Nat.reduceLT, Nat.reduceLeDiff, Nat.reduceEqDiff, Nat.reduceBEq, Int.reduceLE, Int.reduceLT, Int.reduceToNat, Int.reduceMul, Int.reduceAdd, Int.reduceSub, Int.reduceNeg, Int.reduceEq, reduceCtorEq, Nat.reduceMod, viewC]
  first | refine call_k (s_slices_IndexFunc l.recs 96 [.pt (viewC l)] (behindB l) (by omega) (fun r hr => s_wal_view_synced_1 l h r hr)) ?_ (by simp -implicitDefEqProofs only [go_sem, reduceIte, Nat.reduceAdd, Nat.reduceSub, Nat.reduceMul, Nat.reduceLT, Nat.reduceLeDiff, Nat.reduceEqDiff, Nat.reduceBEq, Int.reduceLE, Int.reduceLT, Int.reduceToNat, Int.reduceMul, Int.reduceAdd, Int.reduceSub, Int.reduceNeg, Int.reduceEq, reduceCtorEq, Nat.reduceMod, viewC]) | skip
  unfold syncV ixF
  cases hx : l.recs.findIdx? (behindB l) with
  | none =>
    simp -implicitDefEqProofs only [go_sem, reduceIte, Nat.reduceAdd, Nat.reduceSub, Nat.reduceMul, Nat.reduceLT, Nat.reduceLeDiff, Nat.reduceEqDiff, Nat.reduceBEq, Int.reduceLE, Int.reduceLT, Int.reduceToNat, Int.reduceMul, Int.reduceAdd, Int.reduceSub, Int.reduceNeg, Int.reduceEq, reduceCtorEq, Nat.reduceMod, Int.reduceBNe, Int.reduceBEq, Int.reduceGT, Int.reduceGE, Int.reduceNe, Int.cast_ofNat_Int, Int.natCast_zero, Int.natCast_one, bne_self_eq_false, gt_iff_lt, ge_iff_le, Int.lt_irrefl, Int.le_refl]
  | some i =>
    have hi : i < l.recs.length := (List.findIdx?_eq_some_iff_getElem.1 hx).1
    have hw : IntKind.i64.wrap (l.first + (i : Int)) = l.first + i := wrap_i64_id (by omega) (by omega)
    simp -implicitDefEqProofs only [go_sem, reduceIte, Nat.reduceAdd, Nat.reduceSub, Nat.reduceMul, Nat.reduceLT, Nat.reduceLeDiff, Nat.reduceEqDiff, Nat.reduceBEq, Int.reduceLE, Int.reduceLT, Int.reduceToNat, Int.reduceMul, Int.reduceAdd, Int.reduceSub, Int.reduceNeg, Int.reduceEq, reduceCtorEq, Nat.reduceMod, Int.reduceBNe, Int.reduceBEq, Int.reduceGT, Int.reduceGE, Int.reduceNe, Int.cast_ofNat_Int, Int.natCast_zero, Int.natCast_one, bne_self_eq_false, gt_iff_lt, ge_iff_le, Int.lt_irrefl, Int.le_refl, hw]
end Go.Proofs.Ytdpnjhooehadmaa.Pm

/-! PmWe -/
set_option linter.all false
set_option maxRecDepth 100000
set_option maxHeartbeats 2000000
namespace Go.Proofs.Ytdpnjhooehadmaa.Pm
open Go Go.RowKit

theorem all_eq {l : WLog} (h : l.ok) : l.dev.all = catR l.recs := by
  obtain ⟨q, hq⟩ := (scanL_ok l.dev.all).bytes
  have hu : (catR (scanL l.dev.all)).length = l.dev.all.length := h.2.2.1
  have hl := congrArg List.length hq
  rw [List.length_append] at hl
  have : q = [] := List.eq_nil_of_length_eq_zero (by omega)
  rw [this, List.append_nil] at hq
  exact hq
theorem behind_at {l : WLog} (h : l.ok) {i : Nat} (hi : i < l.recs.length) : behindB l l.recs[i] = decide (l.dev.syn.length < (catR (l.recs.take (i + 1))).length) := by
  unfold behindB
  rw [rec_at h hi, show (l.first + (i : Int) + 1 - l.first).toNat = i + 1 by omega]
theorem syncV_eq {l : WLog} (h : l.ok) : syncV l = l.first + (scanL l.dev.syn).length := by
  have hall := all_eq h
  have hsyn : l.dev.syn = (catR l.recs).take l.dev.syn.length := by
    rw [← hall, Dev.all, List.take_left]
  have hle : l.dev.syn.length ≤ (catR l.recs).length := by rw [← hall, Dev.all, List.length_append]; omega
  have hf : follows l.recs = true := scanL_follows l.dev.all
  have key : ∀ k, k ≤ l.recs.length → (catR (l.recs.take k)).length ≤ l.dev.syn.length → (∀ (hk' : k < l.recs.length), l.dev.syn.length < (catR (l.recs.take (k + 1))).length) → (scanL l.dev.syn).length = k := fun k hk h1 h2 => by
    rw [hsyn, scan_torn hf hle hk h1 h2, List.length_take]
    omega
  unfold syncV
  cases hx : l.recs.findIdx? (behindB l) with
  | none =>
    have hn := List.findIdx?_eq_none_iff.1 hx
    have hk := key l.recs.length (Nat.le_refl _) (by
      rw [List.take_length]
      by_cases h0 : l.recs.length = 0
      · rw [List.eq_nil_of_length_eq_zero h0]; exact Nat.zero_le _
      · have h1 := hn l.recs[l.recs.length - 1] (List.getElem_mem _)
        rw [behind_at h (by omega), show l.recs.length - 1 + 1 = l.recs.length by omega, List.take_length] at h1
        have := of_decide_eq_false h1
        omega) (fun hk' => by omega)
    rw [hk]
    exact h.2.2.2.1
  | some i =>
    obtain ⟨hi, hp, hj⟩ := List.findIdx?_eq_some_iff_getElem.1 hx
    rw [behind_at h hi] at hp
    have hp := of_decide_eq_true hp
    have hk := key i (by omega) (by
      by_cases h0 : i = 0
      · subst h0; exact Nat.zero_le _
      · have h1 := hj (i - 1) (by omega)
        rw [behind_at h (by omega), show i - 1 + 1 = i by omega] at h1
        simp only [decide_eq_true_eq] at h1
        omega) (fun _ => hp)
    rw [hk]
def syncR (l : WLog) : Int × Int := if l.ok then (l.first + (scanL l.dev.syn).length, 0) else (0, 8)
def synT (p : Int × Int) : List (T × Bool) := [(.i .i64 p.1, true), (.i .i64 p.2, true)]
theorem s_wal_Synced (l : WLog) (hl : l.fine) : Spec Try.prog 18 [.agg l.cells] [] (resV ((synT (syncR l)).map AV.ofT)) := by
  refine spec_k (hold mixed) b_wal_Synced (synT (syncR l)) ?_
  by_cases h : l.ok
  · simp -implicitDefEqProofs only [go_sem, reduceIte, Nat.reduceAdd, Nat.reduceSub, Nat.reduceMul, Nat.reduceLT, Nat.reduceLeDiff, Nat.reduceEqDiff, Nat.reduceBEq, Int.reduceLE, Int.reduceLT, Int.reduceToNat, Int.reduceMul, Int.reduceAdd, Int.reduceSub, Int.reduceNeg, Int.reduceEq, reduceCtorEq, Nat.reduceMod, Int.reduceBNe, Int.reduceBEq, Int.reduceGT, Int.reduceGE, Int.reduceNe, Int.cast_ofNat_Int, Int.natCast_zero, Int.natCast_one, bne_self_eq_false, gt_iff_lt, ge_iff_le, Int.lt_irrefl, Int.le_refl]
    refine call_k (s_wal_look_ok l hl h) ?_
    simp -implicitDefEqProofs only [go_sem, reduceIte, Nat.reduceAdd, Nat.reduceSub, Nat.reduceMul, Nat.reduceLT, Nat.reduceLeDiff, Nat.reduceEqDiff, Nat.reduceBEq, Int.reduceLE, Int.reduceLT, Int.reduceToNat, Int.reduceMul, Int.reduceAdd, Int.reduceSub, Int.reduceNeg, Int.reduceEq, reduceCtorEq, Nat.reduceMod, Int.reduceBNe, Int.reduceBEq, Int.reduceGT, Int.reduceGE, Int.reduceNe, Int.cast_ofNat_Int, Int.natCast_zero, Int.natCast_one, bne_self_eq_false, gt_iff_lt, ge_iff_le, Int.lt_irrefl, Int.le_refl, viewV]
    refine call_k (s_wal_view_synced l h) ?_ (by simp -implicitDefEqProofs only [go_sem, reduceIte, Nat.reduceAdd, Nat.reduceSub, Nat.reduceMul, Nat.reduceLT, Nat.reduceLeDiff, Nat.reduceEqDiff, Nat.reduceBEq, Int.reduceLE, Int.reduceLT, Int.reduceToNat, Int.reduceMul, Int.reduceAdd, Int.reduceSub, Int.reduceNeg, Int.reduceEq, reduceCtorEq, Nat.reduceMod, viewC])
    simp -implicitDefEqProofs only [go_sem, reduceIte, Nat.reduceAdd, Nat.reduceSub, Nat.reduceMul, Nat.reduceLT, Nat.reduceLeDiff, Nat.reduceEqDiff, Nat.reduceBEq, Int.reduceLE, Int.reduceLT, Int.reduceToNat, Int.reduceMul, Int.reduceAdd, Int.reduceSub, Int.reduceNeg, Int.reduceEq, reduceCtorEq, Nat.reduceMod, Int.reduceBNe, Int.reduceBEq, Int.reduceGT, Int.reduceGE, Int.reduceNe, Int.cast_ofNat_Int, Int.natCast_zero, Int.natCast_one, bne_self_eq_false, gt_iff_lt, ge_iff_le, Int.lt_irrefl, Int.le_refl, synT, syncR, h, syncV_eq h]
  · simp -implicitDefEqProofs only [go_sem, reduceIte, Nat.reduceAdd, Nat.reduceSub, Nat.reduceMul, Nat.reduceLT, Nat.reduceLeDiff, Nat.reduceEqDiff, Nat.reduceBEq, Int.reduceLE, Int.reduceLT, Int.reduceToNat, Int.reduceMul, Int.reduceAdd, Int.reduceSub, Int.reduceNeg, Int.reduceEq, reduceCtorEq, Nat.reduceMod, Int.reduceBNe, Int.reduceBEq, Int.reduceGT, Int.reduceGE, Int.reduceNe, Int.cast_ofNat_Int, Int.natCast_zero, Int.natCast_one, bne_self_eq_false, gt_iff_lt, ge_iff_le, Int.lt_irrefl, Int.le_refl]
    refine call_k (s_wal_look_bad l hl h) ?_
    simp -implicitDefEqProofs only [go_sem, reduceIte, Nat.reduceAdd, Nat.reduceSub, Nat.reduceMul, Nat.reduceLT, Nat.reduceLeDiff, Nat.reduceEqDiff, Nat.reduceBEq, Int.reduceLE, Int.reduceLT, Int.reduceToNat, Int.reduceMul, Int.reduceAdd, Int.reduceSub, Int.reduceNeg, Int.reduceEq, reduceCtorEq, Nat.reduceMod, Int.reduceBNe, Int.reduceBEq, Int.reduceGT, Int.reduceGE, Int.reduceNe, Int.cast_ofNat_Int, Int.natCast_zero, Int.natCast_one, bne_self_eq_false, gt_iff_lt, ge_iff_le, Int.lt_irrefl, Int.le_refl, zeroV, synT, syncR, h]
end Go.Proofs.Ytdpnjhooehadmaa.Pm

/-! PmWf -/
set_option linter.all false
set_option maxRecDepth 100000
set_option maxHeartbeats 2000000
namespace Go.Proofs.Ytdpnjhooehadmaa.Pm
open Go Go.RowKit

def recR (l : WLog) (n : Int) : List Rec × Int := if l.ok then (if l.first ≤ n ∧ n ≤ l.next then (l.recs.drop (n - l.first).toNat, 0) else ([], 2)) else ([], 8)
def recT (p : List Rec × Int) : List (T × Bool) := [(.sl (recsT p.1), true), (.i .i64 p.2, true)]
theorem okEs_recs (l : List Rec) : okEs 2 (recsT l) := by
  intro e he
  simp only [recsT, List.mem_map] at he
  obtain ⟨o, _, rfl⟩ := he
  refine ⟨rfl, fun x hx => ?_⟩
  simp only [Rec.cells, List.mem_cons, List.not_mem_nil, or_false] at hx
  rcases hx with rfl | rfl <;> trivial
theorem recs_rest (l : List Rec) (n : Nat) (hn : n ≤ l.length) : List.take ((l.length : Int) - (n : Int)).toNat (List.drop n (recsT l)) = recsT (l.drop n) := by
  have : List.drop n (recsT l) = recsT (l.drop n) := by simp [recsT, List.map_drop]
  rw [this, List.take_of_length_le]
  rw [recsT_length, List.length_drop]
  omega
theorem s_wal_Records (l : WLog) (hl : l.fine) (n : Int) (h0 : -9223372036854775808 ≤ n) (h1 : n ≤ 9223372036854775807) : Spec Try.prog 20 [.agg l.cells, .i .i64 n] [] (resV ((recT (recR l n)).map AV.ofT)) := by
  refine spec_k (hold mixed) b_wal_Records (recT (recR l n)) ?_
  by_cases h : l.ok
  · obtain ⟨b0, b1, b2⟩ := ok_bounds h
    have hnx := h.2.2.2.1
    simp -implicitDefEqProofs only [go_sem, reduceIte, Nat.reduceAdd, Nat.reduceSub, Nat.reduceMul, Nat.reduceLT, Nat.reduceLeDiff, Nat.reduceEqDiff, Nat.reduceBEq, Int.reduceLE, Int.reduceLT, Int.reduceToNat, Int.reduceMul, Int.reduceAdd, Int.reduceSub, Int.reduceNeg, Int.reduceEq, reduceCtorEq, Nat.reduceMod, Int.reduceBNe, Int.reduceBEq, Int.reduceGT, Int.reduceGE, Int.reduceNe, Int.cast_ofNat_Int, Int.natCast_zero, Int.natCast_one, bne_self_eq_false, gt_iff_lt, ge_iff_le, Int.lt_irrefl, Int.le_refl]
    refine call_k (s_wal_look_ok l hl h) ?_
    by_cases c0 : n < l.first
    · have ev : recR l n = ([], 2) := by simp [recR, h]; omega
      rw [ev]
      simp -implicitDefEqProofs only [go_sem, reduceIte, Nat.reduceAdd, Nat.reduceSub, Nat.reduceMul, Nat.reduceLT, Nat.reduceLeDiff, Nat.reduceEqDiff, Nat.reduceBEq, Int.reduceLE, Int.reduceLT, Int.reduceToNat, Int.reduceMul, Int.reduceAdd, Int.reduceSub, Int.reduceNeg, Int.reduceEq, reduceCtorEq, Nat.reduceMod, Int.reduceBNe, Int.reduceBEq, Int.reduceGT, Int.reduceGE, Int.reduceNe, Int.cast_ofNat_Int, Int.natCast_zero, Int.natCast_one, bne_self_eq_false, gt_iff_lt, ge_iff_le, Int.lt_irrefl, Int.le_refl, viewV, c0, recT, recsT, List.map]
    by_cases c1 : l.next < n
    · have ev : recR l n = ([], 2) := by simp [recR, h]; omega
      rw [ev]
      simp -implicitDefEqProofs only [go_sem, reduceIte, Nat.reduceAdd, Nat.reduceSub, Nat.reduceMul, Nat.reduceLT, Nat.reduceLeDiff, Nat.reduceEqDiff, Nat.reduceBEq, Int.reduceLE, Int.reduceLT, Int.reduceToNat, Int.reduceMul, Int.reduceAdd, Int.reduceSub, Int.reduceNeg, Int.reduceEq, reduceCtorEq, Nat.reduceMod, Int.reduceBNe, Int.reduceBEq, Int.reduceGT, Int.reduceGE, Int.reduceNe, Int.cast_ofNat_Int, Int.natCast_zero, Int.natCast_one, bne_self_eq_false, gt_iff_lt, ge_iff_le, Int.lt_irrefl, Int.le_refl, viewV, c0, c1, recT, recsT, List.map]
    obtain ⟨m, hm⟩ : ∃ m : Nat, n = l.first + m := ⟨(n - l.first).toNat, by omega⟩
    have ev : recR l n = (l.recs.drop m, 0) := by
      have : (n - l.first).toNat = m := by omega
      simp [recR, h, this]
      omega
    have hw : IntKind.i64.wrap (n - l.first) = m := by rw [wrap_i64_id (by omega) (by omega)]; omega
    have hml : m ≤ l.recs.length := by omega
    rw [ev]
    simp -implicitDefEqProofs only [go_sem, reduceIte, Nat.reduceAdd, Nat.reduceSub, Nat.reduceMul, Nat.reduceLT, Nat.reduceLeDiff, Nat.reduceEqDiff, Nat.reduceBEq, Int.reduceLE, Int.reduceLT, Int.reduceToNat, Int.reduceMul, Int.reduceAdd, Int.reduceSub, Int.reduceNeg, Int.reduceEq, reduceCtorEq, Nat.reduceMod, Int.reduceBNe, Int.reduceBEq, Int.reduceGT, Int.reduceGE, Int.reduceNe, Int.cast_ofNat_Int, Int.natCast_zero, Int.natCast_one, bne_self_eq_false, gt_iff_lt, ge_iff_le, Int.lt_irrefl, Int.le_refl, viewV, c0, c1, hw, recsT_length, recs_rest _ _ hml, recT]
    exact ⟨by omega, .inr (okEs_recs _)⟩
  · simp -implicitDefEqProofs only [go_sem, reduceIte, Nat.reduceAdd, Nat.reduceSub, Nat.reduceMul, Nat.reduceLT, Nat.reduceLeDiff, Nat.reduceEqDiff, Nat.reduceBEq, Int.reduceLE, Int.reduceLT, Int.reduceToNat, Int.reduceMul, Int.reduceAdd, Int.reduceSub, Int.reduceNeg, Int.reduceEq, reduceCtorEq, Nat.reduceMod, Int.reduceBNe, Int.reduceBEq, Int.reduceGT, Int.reduceGE, Int.reduceNe, Int.cast_ofNat_Int, Int.natCast_zero, Int.natCast_one, bne_self_eq_false, gt_iff_lt, ge_iff_le, Int.lt_irrefl, Int.le_refl]
    refine call_k (s_wal_look_bad l hl h) ?_
    simp -implicitDefEqProofs only [go_sem, reduceIte, Nat.reduceAdd, Nat.reduceSub, Nat.reduceMul, Nat.reduceLT, Nat.reduceLeDiff, Nat.reduceEqDiff, Nat.reduceBEq, Int.reduceLE, Int.reduceLT, Int.reduceToNat, Int.reduceMul, Int.reduceAdd, Int.reduceSub, Int.reduceNeg, Int.reduceEq, reduceCtorEq, Nat.reduceMod, Int.reduceBNe, Int.reduceBEq, Int.reduceGT, Int.reduceGE, Int.reduceNe, Int.cast_ofNat_Int, Int.natCast_zero, Int.natCast_one, bne_self_eq_false, gt_iff_lt, ge_iff_le, Int.lt_irrefl, Int.le_refl, zeroV, recT, recR, h, recsT, List.map]
end Go.Proofs.Ytdpnjhooehadmaa.Pm

/-! PmWx -/
set_option linter.all false
set_option maxRecDepth 100000
namespace Go.Proofs.Ytdpnjhooehadmaa.Pm
open Go Go.RowKit

end Go.Proofs.Ytdpnjhooehadmaa.Pm
