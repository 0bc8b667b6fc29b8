/- Texts of this proof in one file: PmKw, PmWa, PmWb, PmWc, PmWd, PmWe, PmWf, PmWh, PmWi, PmWj. No law of Go's is stated here. -/
import Derived.Test.YtlfpafdkegnkoaaPmMg
import Derived.Test.YtlfpafdkegnkoaaPmMe
import Derived.Test.YtlfpafdkegnkoaaPmMf
set_option linter.all false
set_option maxRecDepth 100000
namespace Go.Proofs.Ytlfpafdkegnkoaa.Pm
open Go Go.RowKit
def r_wal_Open_0 : List I := [⟨some 14, .binOp .neq 35 (.tmp 13) (.const (.int .i64 0)) 35, none⟩]
@[go_sem ↓] def uq310 := @unI _ _ r_wal_Open_0.eq_1
def kc242 : C := (.seq (.seq (.reg ([⟨some 15, .build 31 #[], none⟩, ⟨none, .store 31 (.tmp 4) (.tmp 15), none⟩, ⟨some 5, .assign (.const (.int .i64 8)), none⟩])) (.keep [4, 5])) .ret)
@[go_sem ↓] def uq311 := @unC _ _ kc242.eq_1
def kc243 : C := (.cond (.tmp 14) kc242 .skip)
@[go_sem ↓] def uq312 := @unC _ _ kc243.eq_1
def kc244 : C := (.seq (.seq (.reg ([⟨some 22, .build 31 #[], none⟩, ⟨none, .store 31 (.tmp 4) (.tmp 22), none⟩, ⟨some 5, .assign (.const (.int .i64 2)), none⟩])) (.keep [4, 5])) .ret)
@[go_sem ↓] def uq313 := @unC _ _ kc244.eq_1
def kc245 : C := (.cond (.tmp 21) kc244 .skip)
@[go_sem ↓] def uq314 := @unC _ _ kc245.eq_1
def r_wal_Open_5 : List I := [⟨some 25, .move (.tmp 27), none⟩, ⟨some 28, .extract (.tmp 25) 0, none⟩, ⟨some 29, .extract (.tmp 25) 1, none⟩, ⟨none, .store 26 (.tmp 2) (.tmp 28), none⟩]
@[go_sem ↓] def uq315 := @unI _ _ r_wal_Open_5.eq_1
def kc246 : C := (.seq (.reg (⟨some 26, .load 26 (.tmp 2), none⟩ :: ⟨some 27, .call { callee := .value (.func 59), args := #[(.tmp 26)], argTypes := #[26] }, none⟩ :: r_wal_Open_5)) (.keep [1, 2, 4]))
@[go_sem ↓] def uq316 := @unC _ _ kc246.eq_1
def kc247 : C := (.cond (.tmp 24) kc246 .skip)
@[go_sem ↓] def uq317 := @unC _ _ kc247.eq_1
def r_wal_Open_8 : List I := [⟨some 30, .move (.tmp 33), none⟩, ⟨some 34, .extract (.tmp 30) 0, none⟩, ⟨some 35, .extract (.tmp 30) 1, none⟩, ⟨some 36, .extract (.tmp 30) 2, none⟩, ⟨some 6, .assign (.tmp 34), none⟩, ⟨some 7, .assign (.tmp 35), none⟩, ⟨some 8, .assign (.tmp 36), none⟩]
@[go_sem ↓] def uq318 := @unI _ _ r_wal_Open_8.eq_1
def r_wal_Open_9 : List I := ⟨some 33, .call { callee := .value (.func 46), args := #[(.tmp 32)], argTypes := #[24] }, none⟩ :: r_wal_Open_8
@[go_sem ↓] def uq319 := @unI _ _ r_wal_Open_9.eq_1
def kc248 : C := (.seq (.draw ([⟨⟨some 54, .move (.tmp 6), none⟩, []⟩, ⟨⟨some 55, .indexAddr 96 (.tmp 54) (.const (.int .i64 0)), none⟩, []⟩, ⟨⟨some 56, .fieldAddr 47 (.tmp 55) 0, none⟩, []⟩, ⟨⟨some 57, .load 3 (.tmp 56), none⟩, []⟩, ⟨⟨some 58, .move (.tmp 6), none⟩, [0, 1, 2, 3]⟩, ⟨⟨some 59, .move (.tmp 11), none⟩, [0, 1, 2, 3, 4]⟩, ⟨⟨some 60, .binOp .sub 3 (.tmp 59) (.const (.int .i64 1)) 3, none⟩, [0, 1, 2, 3, 4]⟩, ⟨⟨some 61, .indexAddr 96 (.tmp 58) (.tmp 60), none⟩, [0, 1, 2, 3]⟩, ⟨⟨some 62, .fieldAddr 47 (.tmp 61) 0, none⟩, [0, 1, 2, 3]⟩, ⟨⟨some 63, .load 3 (.tmp 62), none⟩, [0, 1, 2, 3]⟩, ⟨⟨some 64, .binOp .add 3 (.tmp 63) (.const (.int .i64 1)) 3, none⟩, [0, 1, 2, 3]⟩, ⟨⟨some 9, .assign (.tmp 57), none⟩, [4, 5, 6, 7, 8, 9, 10]⟩, ⟨⟨some 10, .assign (.tmp 64), none⟩, []⟩])) (.keep [2, 4, 7, 9, 10]))
@[go_sem ↓] def uq320 := @unC _ _ kc248.eq_1
def kc249 : C := (.seq (.reg ([⟨some 7, .assign (.const (.int .i64 0)), none⟩])) (.keep [2, 4, 7, 9, 10]))
@[go_sem ↓] def uq321 := @unC _ _ kc249.eq_1
def kc250 : C := (.cond (.tmp 53) kc248 kc249)
@[go_sem ↓] def uq322 := @unC _ _ kc250.eq_1
def kc251 : C := (.seq (.seq (.reg ([⟨some 41, .move (.tmp 11), none⟩, ⟨some 42, .binOp .gtr 3 (.tmp 41) (.const (.int .i64 0)) 3, none⟩, ⟨some 43, .move (.tmp 42), none⟩, ⟨some 44, .move (.tmp 6), some (43, true)⟩, ⟨some 45, .move (.tmp 11), some (43, true)⟩, ⟨some 46, .binOp .sub 3 (.tmp 45) (.const (.int .i64 1)) 3, some (43, true)⟩, ⟨some 47, .indexAddr 96 (.tmp 44) (.tmp 46), some (43, true)⟩, ⟨some 48, .fieldAddr 47 (.tmp 47) 0, some (43, true)⟩, ⟨some 49, .load 3 (.tmp 48), some (43, true)⟩, ⟨some 50, .move (.tmp 1), some (43, true)⟩, ⟨some 51, .binOp .sub 3 (.tmp 50) (.const (.int .i64 1)) 3, some (43, true)⟩, ⟨some 52, .binOp .geq 3 (.tmp 49) (.tmp 51) 3, some (43, true)⟩, ⟨some 53, .pick (.tmp 43) (.tmp 52) (.const (.bool false)), none⟩])) (.keep [2, 4, 6, 7, 9, 10, 11, 53])) kc250)
@[go_sem ↓] def uq323 := @unC _ _ kc251.eq_1
def r_wal_Open_14 : List I := [⟨some 65, .move (.tmp 68), none⟩, ⟨some 69, .extract (.tmp 65) 0, none⟩, ⟨some 70, .extract (.tmp 65) 1, none⟩, ⟨none, .store 26 (.tmp 2) (.tmp 69), none⟩]
@[go_sem ↓] def uq324 := @unI _ _ r_wal_Open_14.eq_1
def r_wal_Open_15 : List I := [⟨some 71, .move (.tmp 73), none⟩, ⟨some 74, .extract (.tmp 71) 0, none⟩, ⟨some 75, .extract (.tmp 71) 1, none⟩, ⟨none, .store 26 (.tmp 2) (.tmp 74), none⟩]
@[go_sem ↓] def uq325 := @unI _ _ r_wal_Open_15.eq_1
def kc252 : C := (.seq (.seq (.reg ([⟨some 76, .load 26 (.tmp 2), none⟩, ⟨some 77, .move (.tmp 9), none⟩, ⟨some 78, .move (.tmp 10), none⟩, ⟨some 79, .build 31 #[(0, (.tmp 76)), (1, (.tmp 77)), (2, (.tmp 78))], none⟩, ⟨none, .store 31 (.tmp 4) (.tmp 79), none⟩, ⟨some 5, .assign (.const (.int .i64 0)), none⟩])) (.keep [4, 5])) .ret)
@[go_sem ↓] def uq326 := @unC _ _ kc252.eq_1
def kc253 : C := (.seq (.seq (.reg (⟨some 72, .load 26 (.tmp 2), none⟩ :: ⟨some 73, .call { callee := .value (.func 62), args := #[(.tmp 72)], argTypes := #[26] }, none⟩ :: r_wal_Open_15)) (.keep [2, 4, 9, 10])) kc252)
@[go_sem ↓] def uq327 := @unC _ _ kc253.eq_1
def kc254 : C := (.seq (.seq (.reg (⟨some 66, .load 26 (.tmp 2), none⟩ :: ⟨some 67, .move (.tmp 7), none⟩ :: ⟨some 68, .call { callee := .value (.func 61), args := #[(.tmp 66), (.tmp 67)], argTypes := #[26, 3] }, none⟩ :: r_wal_Open_14)) (.keep [2, 4, 9, 10])) kc253)
@[go_sem ↓] def uq328 := @unC _ _ kc254.eq_1
def kc255 : C := (.seq (.seq (.seq (.reg ([⟨some 39, .move (.tmp 6), none⟩, ⟨some 40, .call { callee := .builtin .len, args := #[(.tmp 39)], argTypes := #[96] }, none⟩, ⟨some 11, .assign (.tmp 40), none⟩])) (.keep [1, 2, 4, 6, 7, 9, 10, 11])) kc251) kc254)
@[go_sem ↓] def uq329 := @unC _ _ kc255.eq_1
def kc256 : C := (.seq (.seq (.reg ([⟨some 37, .move (.tmp 1), none⟩, ⟨some 38, .move (.tmp 1), none⟩, ⟨some 9, .assign (.tmp 37), none⟩, ⟨some 10, .assign (.tmp 38), none⟩])) (.keep [1, 2, 4, 6, 7, 9, 10])) kc255)
@[go_sem ↓] def uq330 := @unC _ _ kc256.eq_1
def kc257 : C := (.seq (.seq (.reg (⟨some 31, .load 26 (.tmp 2), none⟩ :: ⟨some 32, .call { callee := .value (.func 60), args := #[(.tmp 31)], argTypes := #[26] }, none⟩ :: r_wal_Open_9)) (.keep [1, 2, 4, 6, 7])) kc256)
@[go_sem ↓] def uq331 := @unC _ _ kc257.eq_1
def kc258 : C := (.seq (.seq (.seq (.reg ([⟨some 23, .fieldAddr 26 (.tmp 2) 3, none⟩, ⟨some 24, .load 4 (.tmp 23), none⟩])) (.keep [1, 2, 4, 24])) kc247) kc257)
@[go_sem ↓] def uq332 := @unC _ _ kc258.eq_1
def kc259 : C := (.seq (.seq (.seq (.reg ([⟨some 16, .move (.tmp 1), none⟩, ⟨some 17, .binOp .lss 3 (.tmp 16) (.const (.int .i64 0)) 3, none⟩, ⟨some 18, .move (.tmp 17), none⟩, ⟨some 19, .move (.tmp 1), some (18, false)⟩, ⟨some 20, .binOp .gtr 3 (.tmp 19) (.const (.int .i64 1000000000)) 3, some (18, false)⟩, ⟨some 21, .pick (.tmp 18) (.const (.bool true)) (.tmp 20), none⟩])) (.keep [1, 2, 4, 21])) kc245) kc258)
@[go_sem ↓] def uq333 := @unC _ _ kc259.eq_1
def kc260 : C := (.seq (.seq (.seq (.reg (⟨some 12, .load 26 (.tmp 2), none⟩ :: ⟨some 13, .call { callee := .value (.func 39), args := #[(.tmp 12)], argTypes := #[26] }, none⟩ :: r_wal_Open_0)) (.keep [1, 2, 4, 14])) kc243) kc259)
@[go_sem ↓] def uq334 := @unC _ _ kc260.eq_1
def c_wal_Open : C := (.seq (.seq (.reg ([⟨some 2, .box 26 (.tmp 0), none⟩, ⟨some 4, .alloc 31, none⟩, ⟨some 5, .assign (.const (.int .i64 0)), none⟩])) (.keep [1, 2, 4])) kc260)
attribute [go_sem ↓] c_wal_Open
def h_wal_Open : List Hint := [⟨[], [1, 2, 4], []⟩, ⟨[], [1, 2, 4, 14], []⟩, ⟨[], [4, 5], []⟩, ⟨[], [1, 2, 4, 21], []⟩, ⟨[], [4, 5], []⟩, ⟨[], [1, 2, 4, 24], []⟩, ⟨[], [1, 2, 4], []⟩, ⟨[], [1, 2, 4, 6, 7], []⟩, ⟨[], [1, 2, 4, 6, 7, 9, 10], []⟩, ⟨[], [1, 2, 4, 6, 7, 9, 10, 11], []⟩, ⟨[], [2, 4, 6, 7, 9, 10, 11, 53], []⟩, ⟨[], [2, 4, 7, 9, 10], []⟩, ⟨[], [2, 4, 7, 9, 10], []⟩, ⟨[], [2, 4, 9, 10], []⟩, ⟨[], [2, 4, 9, 10], []⟩, ⟨[], [4, 5], []⟩]
theorem b_wal_Open : Body Try.prog 27 [] h_wal_Open c_wal_Open 80 [.cell 4 31, .tmp 5] := body_of Try.func27 (by kernel_rfl) (by kernel_rfl) (by kernel_rfl) (by kernel_rfl)
def c_wal_Sync : C := (.seq (.seq (.reg ([⟨some 1, .box 31 (.tmp 0), none⟩, ⟨some 2, .alloc 31, none⟩, ⟨some 3, .assign (.const (.int .i64 0)), none⟩])) (.keep [1, 2])) (.seq (.seq (.reg ([⟨some 8, .load 31 (.tmp 1), none⟩, ⟨some 9, .call { callee := .value (.func 63), args := #[(.tmp 8)], argTypes := #[31] }, none⟩, ⟨some 7, .move (.tmp 9), none⟩, ⟨some 10, .extract (.tmp 7) 0, none⟩, ⟨some 11, .extract (.tmp 7) 1, none⟩, ⟨some 4, .alloc 114, none⟩, ⟨none, .store 114 (.tmp 4) (.tmp 10), none⟩, ⟨some 5, .assign (.tmp 11), none⟩])) (.keep [2, 4, 5])) (.seq (.seq (.seq (.reg ([⟨some 12, .move (.tmp 5), none⟩, ⟨some 13, .binOp .neq 35 (.tmp 12) (.const (.int .i64 0)) 35, none⟩])) (.keep [2, 4, 5, 13])) (.cond (.tmp 13) (.seq (.seq (.reg ([⟨some 14, .build 31 #[], none⟩, ⟨some 15, .move (.tmp 5), none⟩, ⟨none, .store 31 (.tmp 2) (.tmp 14), none⟩, ⟨some 3, .assign (.tmp 15), none⟩])) (.keep [2, 3])) .ret) .skip)) (.seq (.seq (.reg ([⟨some 17, .fieldAddr 114 (.tmp 4) 0, none⟩, ⟨some 18, .fieldAddr 31 (.tmp 17) 0, none⟩, ⟨some 19, .load 26 (.tmp 18), none⟩, ⟨some 20, .call { callee := .value (.func 62), args := #[(.tmp 19)], argTypes := #[26] }, none⟩, ⟨some 16, .move (.tmp 20), none⟩, ⟨some 21, .extract (.tmp 16) 0, none⟩, ⟨some 22, .extract (.tmp 16) 1, none⟩, ⟨some 6, .alloc 26, none⟩, ⟨none, .store 26 (.tmp 6) (.tmp 21), none⟩, ⟨some 5, .assign (.tmp 22), none⟩])) (.keep [2, 4, 5, 6])) (.seq (.seq (.reg ([⟨some 23, .load 114 (.tmp 4), none⟩, ⟨some 24, .load 26 (.tmp 6), none⟩, ⟨some 25, .fieldAddr 114 (.tmp 4) 0, none⟩, ⟨some 26, .fieldAddr 31 (.tmp 25) 1, none⟩, ⟨some 27, .load 3 (.tmp 26), none⟩, ⟨some 28, .fieldAddr 114 (.tmp 4) 0, none⟩, ⟨some 29, .fieldAddr 31 (.tmp 28) 2, none⟩, ⟨some 30, .load 3 (.tmp 29), none⟩, ⟨some 31, .call { callee := .value (.func 64), args := #[(.tmp 23), (.tmp 24), (.tmp 27), (.tmp 30)], argTypes := #[114, 26, 3, 3] }, none⟩, ⟨some 32, .move (.tmp 5), none⟩, ⟨none, .store 31 (.tmp 2) (.tmp 31), none⟩, ⟨some 3, .assign (.tmp 32), none⟩])) (.keep [2, 3])) .ret)))))
attribute [go_sem ↓] c_wal_Sync
def h_wal_Sync : List Hint := [⟨[], [1, 2], []⟩, ⟨[], [2, 4, 5], []⟩, ⟨[], [2, 4, 5, 13], []⟩, ⟨[], [2, 3], []⟩, ⟨[], [2, 4, 5, 6], []⟩, ⟨[], [2, 3], []⟩]
theorem b_wal_Sync : Body Try.prog 28 [] h_wal_Sync c_wal_Sync 33 [.cell 2 31, .tmp 3] := body_of Try.func28 (by kernel_rfl) (by kernel_rfl) (by kernel_rfl) (by kernel_rfl)
def c_wal_Drop : C := (.seq (.seq (.reg ([⟨some 2, .box 31 (.tmp 0), none⟩, ⟨some 4, .alloc 31, none⟩, ⟨some 5, .assign (.const (.int .i64 0)), none⟩])) (.keep [1, 2, 4])) (.seq (.seq (.reg ([⟨some 10, .load 31 (.tmp 2), none⟩, ⟨some 11, .call { callee := .value (.func 63), args := #[(.tmp 10)], argTypes := #[31] }, none⟩, ⟨some 9, .move (.tmp 11), none⟩, ⟨some 12, .extract (.tmp 9) 0, none⟩, ⟨some 13, .extract (.tmp 9) 1, none⟩, ⟨some 6, .alloc 114, none⟩, ⟨none, .store 114 (.tmp 6) (.tmp 12), none⟩, ⟨some 7, .assign (.tmp 13), none⟩])) (.keep [1, 4, 6, 7])) (.seq (.seq (.seq (.reg ([⟨some 14, .move (.tmp 7), none⟩, ⟨some 15, .binOp .neq 35 (.tmp 14) (.const (.int .i64 0)) 35, none⟩])) (.keep [1, 4, 6, 7, 15])) (.cond (.tmp 15) (.seq (.seq (.reg ([⟨some 16, .build 31 #[], none⟩, ⟨some 17, .move (.tmp 7), none⟩, ⟨none, .store 31 (.tmp 4) (.tmp 16), none⟩, ⟨some 5, .assign (.tmp 17), none⟩])) (.keep [4, 5])) .ret) .skip)) (.seq (.seq (.seq (.reg ([⟨some 18, .move (.tmp 1), none⟩, ⟨some 19, .fieldAddr 114 (.tmp 6) 0, none⟩, ⟨some 20, .fieldAddr 31 (.tmp 19) 1, none⟩, ⟨some 21, .load 3 (.tmp 20), none⟩, ⟨some 22, .binOp .lss 3 (.tmp 18) (.tmp 21) 3, none⟩, ⟨some 23, .move (.tmp 22), none⟩, ⟨some 24, .move (.tmp 1), some (23, false)⟩, ⟨some 25, .fieldAddr 114 (.tmp 6) 0, some (23, false)⟩, ⟨some 26, .fieldAddr 31 (.tmp 25) 2, some (23, false)⟩, ⟨some 27, .load 3 (.tmp 26), some (23, false)⟩, ⟨some 28, .binOp .gtr 3 (.tmp 24) (.tmp 27) 3, some (23, false)⟩, ⟨some 29, .pick (.tmp 23) (.const (.bool true)) (.tmp 28), none⟩])) (.keep [1, 4, 6, 29])) (.cond (.tmp 29) (.seq (.seq (.reg ([⟨some 30, .build 31 #[], none⟩, ⟨none, .store 31 (.tmp 4) (.tmp 30), none⟩, ⟨some 5, .assign (.const (.int .i64 2)), none⟩])) (.keep [4, 5])) .ret) .skip)) (.seq (.seq (.seq (.reg ([⟨some 31, .move (.tmp 1), none⟩, ⟨some 32, .load 114 (.tmp 6), none⟩, ⟨some 33, .call { callee := .value (.func 68), args := #[(.tmp 32)], argTypes := #[114] }, none⟩, ⟨some 34, .binOp .gtr 3 (.tmp 31) (.tmp 33) 3, none⟩])) (.keep [1, 4, 6, 34])) (.cond (.tmp 34) (.seq (.seq (.reg ([⟨some 35, .build 31 #[], none⟩, ⟨none, .store 31 (.tmp 4) (.tmp 35), none⟩, ⟨some 5, .assign (.const (.int .i64 32)), none⟩])) (.keep [4, 5])) .ret) .skip)) (.seq (.seq (.draw ([⟨⟨some 37, .fieldAddr 114 (.tmp 6) 0, none⟩, []⟩, ⟨⟨some 38, .fieldAddr 31 (.tmp 37) 0, none⟩, []⟩, ⟨⟨some 39, .load 26 (.tmp 38), none⟩, []⟩, ⟨⟨some 40, .load 114 (.tmp 6), none⟩, [0, 1, 2]⟩, ⟨⟨some 41, .move (.tmp 1), none⟩, [0, 1, 2, 3]⟩, ⟨⟨some 42, .call { callee := .value (.func 70), args := #[(.tmp 40), (.tmp 41)], argTypes := #[114, 3] }, none⟩, [0, 1, 2]⟩, ⟨⟨some 43, .call { callee := .value (.func 69), args := #[(.tmp 39), (.tmp 42)], argTypes := #[26, 3] }, none⟩, []⟩, ⟨⟨some 36, .move (.tmp 43), none⟩, []⟩, ⟨⟨some 44, .extract (.tmp 36) 0, none⟩, []⟩, ⟨⟨some 45, .extract (.tmp 36) 1, none⟩, [8]⟩, ⟨⟨some 8, .alloc 26, none⟩, [0, 1, 2, 3, 4, 5, 6, 7, 8, 9]⟩, ⟨⟨none, .store 26 (.tmp 8) (.tmp 44), none⟩, [9]⟩, ⟨⟨some 7, .assign (.tmp 45), none⟩, []⟩])) (.keep [1, 4, 6, 7, 8])) (.seq (.seq (.reg ([⟨some 46, .load 114 (.tmp 6), none⟩, ⟨some 47, .load 26 (.tmp 8), none⟩, ⟨some 48, .move (.tmp 1), none⟩, ⟨some 49, .fieldAddr 114 (.tmp 6) 0, none⟩, ⟨some 50, .fieldAddr 31 (.tmp 49) 2, none⟩, ⟨some 51, .load 3 (.tmp 50), none⟩, ⟨some 52, .call { callee := .value (.func 64), args := #[(.tmp 46), (.tmp 47), (.tmp 48), (.tmp 51)], argTypes := #[114, 26, 3, 3] }, none⟩, ⟨some 53, .move (.tmp 7), none⟩, ⟨none, .store 31 (.tmp 4) (.tmp 52), none⟩, ⟨some 5, .assign (.tmp 53), none⟩])) (.keep [4, 5])) .ret)))))))
attribute [go_sem ↓] c_wal_Drop
def h_wal_Drop : List Hint := [⟨[], [1, 2, 4], []⟩, ⟨[], [1, 4, 6, 7], []⟩, ⟨[], [1, 4, 6, 7, 15], []⟩, ⟨[], [4, 5], []⟩, ⟨[], [1, 4, 6, 29], []⟩, ⟨[], [4, 5], []⟩, ⟨[], [1, 4, 6, 34], []⟩, ⟨[], [4, 5], []⟩, ⟨[], [1, 4, 6, 7, 8], []⟩, ⟨[], [4, 5], []⟩]
theorem b_wal_Drop : Body Try.prog 32 [] h_wal_Drop c_wal_Drop 54 [.cell 4 31, .tmp 5] := body_of Try.func32 (by kernel_rfl) (by kernel_rfl) (by kernel_rfl) (by kernel_rfl)
def r_wal_Append_0 : List I := [⟨some 12, .move (.tmp 14), none⟩, ⟨some 15, .extract (.tmp 12) 0, none⟩, ⟨some 16, .extract (.tmp 12) 1, none⟩, ⟨some 7, .alloc 114, none⟩, ⟨none, .store 114 (.tmp 7) (.tmp 15), none⟩, ⟨some 8, .assign (.tmp 16), none⟩]
@[go_sem ↓] def uq335 := @unI _ _ r_wal_Append_0.eq_1
def kc261 : C := (.seq (.seq (.reg ([⟨some 19, .build 31 #[], none⟩, ⟨some 20, .move (.tmp 8), none⟩, ⟨none, .store 31 (.tmp 4) (.tmp 19), none⟩, ⟨some 5, .assign (.const (.int .i64 0)), none⟩, ⟨some 6, .assign (.tmp 20), none⟩])) (.keep [4, 5, 6])) .ret)
@[go_sem ↓] def uq336 := @unC _ _ kc261.eq_1
def kc262 : C := (.cond (.tmp 18) kc261 .skip)
@[go_sem ↓] def uq337 := @unC _ _ kc262.eq_1
def kc263 : C := (.seq (.seq (.reg ([⟨some 24, .build 31 #[], none⟩, ⟨none, .store 31 (.tmp 4) (.tmp 24), none⟩, ⟨some 5, .assign (.const (.int .i64 0)), none⟩, ⟨some 6, .assign (.const (.int .i64 4)), none⟩])) (.keep [4, 5, 6])) .ret)
@[go_sem ↓] def uq338 := @unC _ _ kc263.eq_1
def kc264 : C := (.cond (.tmp 23) kc263 .skip)
@[go_sem ↓] def uq339 := @unC _ _ kc264.eq_1
def kc265 : C := (.seq (.seq (.reg ([⟨some 29, .build 31 #[], none⟩, ⟨none, .store 31 (.tmp 4) (.tmp 29), none⟩, ⟨some 5, .assign (.const (.int .i64 0)), none⟩, ⟨some 6, .assign (.const (.int .i64 2)), none⟩])) (.keep [4, 5, 6])) .ret)
@[go_sem ↓] def uq340 := @unC _ _ kc265.eq_1
def kc266 : C := (.cond (.tmp 28) kc265 .skip)
@[go_sem ↓] def uq341 := @unC _ _ kc266.eq_1
def r_wal_Append_7 : List I := [⟨some 30, .move (.tmp 36), none⟩, ⟨some 37, .extract (.tmp 30) 0, none⟩, ⟨some 38, .extract (.tmp 30) 1, none⟩, ⟨some 9, .assign (.tmp 37), none⟩, ⟨some 10, .assign (.tmp 38), none⟩]
@[go_sem ↓] def uq342 := @unI _ _ r_wal_Append_7.eq_1
def r_wal_Append_8 : List I := [⟨some 39, .move (.tmp 44), none⟩, ⟨some 45, .extract (.tmp 39) 0, none⟩, ⟨some 46, .extract (.tmp 39) 1, none⟩, ⟨some 11, .alloc 26, none⟩, ⟨none, .store 26 (.tmp 11) (.tmp 45), none⟩, ⟨some 8, .assign (.tmp 46), none⟩]
@[go_sem ↓] def uq343 := @unI _ _ r_wal_Append_8.eq_1
def kc267 : C := (.seq (.seq (.reg ([⟨some 49, .build 31 #[], none⟩, ⟨some 50, .move (.tmp 8), none⟩, ⟨none, .store 31 (.tmp 4) (.tmp 49), none⟩, ⟨some 5, .assign (.const (.int .i64 0)), none⟩, ⟨some 6, .assign (.tmp 50), none⟩])) (.keep [4, 5, 6])) .ret)
@[go_sem ↓] def uq344 := @unC _ _ kc267.eq_1
def kc268 : C := (.cond (.tmp 48) kc267 .skip)
@[go_sem ↓] def uq345 := @unC _ _ kc268.eq_1
def d_wal_Append_11 : List D := [⟨⟨some 61, .fieldAddr 114 (.tmp 7) 0, none⟩, [0, 1, 2, 3, 4, 5, 6, 7, 8, 9]⟩, ⟨⟨some 62, .fieldAddr 31 (.tmp 61) 2, none⟩, [0, 1, 2, 3, 4, 5, 6, 7, 8, 9]⟩, ⟨⟨some 63, .load 3 (.tmp 62), none⟩, [0, 1, 2, 3, 4, 5, 6, 7, 8, 9]⟩, ⟨⟨none, .store 31 (.tmp 4) (.tmp 60), none⟩, [10, 11, 12]⟩, ⟨⟨some 5, .assign (.tmp 63), none⟩, []⟩, ⟨⟨some 6, .assign (.const (.int .i64 0)), none⟩, []⟩]
@[go_sem ↓] def uq346 := @unD _ _ d_wal_Append_11.eq_1
def kc269 : C := (.seq (.seq (.draw (⟨⟨some 51, .load 114 (.tmp 7), none⟩, []⟩ :: ⟨⟨some 52, .load 26 (.tmp 11), none⟩, [0]⟩ :: ⟨⟨some 53, .fieldAddr 114 (.tmp 7) 0, none⟩, [0, 1]⟩ :: ⟨⟨some 54, .fieldAddr 31 (.tmp 53) 1, none⟩, [0, 1]⟩ :: ⟨⟨some 55, .load 3 (.tmp 54), none⟩, [0, 1]⟩ :: ⟨⟨some 56, .fieldAddr 114 (.tmp 7) 0, none⟩, [0, 1, 2, 3, 4]⟩ :: ⟨⟨some 57, .fieldAddr 31 (.tmp 56) 2, none⟩, [0, 1, 2, 3, 4]⟩ :: ⟨⟨some 58, .load 3 (.tmp 57), none⟩, [0, 1, 2, 3, 4]⟩ :: ⟨⟨some 59, .binOp .add 3 (.tmp 58) (.const (.int .i64 1)) 3, none⟩, [0, 1, 2, 3, 4]⟩ :: ⟨⟨some 60, .call { callee := .value (.func 64), args := #[(.tmp 51), (.tmp 52), (.tmp 55), (.tmp 59)], argTypes := #[114, 26, 3, 3] }, none⟩, []⟩ :: d_wal_Append_11)) (.keep [4, 5, 6])) .ret)
@[go_sem ↓] def uq347 := @unC _ _ kc269.eq_1
def kc270 : C := (.seq (.seq (.seq (.reg ([⟨some 47, .move (.tmp 8), none⟩, ⟨some 48, .binOp .neq 35 (.tmp 47) (.const (.int .i64 0)) 35, none⟩])) (.keep [4, 7, 8, 11, 48])) kc268) kc269)
@[go_sem ↓] def uq348 := @unC _ _ kc270.eq_1
def kc271 : C := (.seq (.seq (.reg (⟨some 40, .fieldAddr 114 (.tmp 7) 0, none⟩ :: ⟨some 41, .fieldAddr 31 (.tmp 40) 0, none⟩ :: ⟨some 42, .load 26 (.tmp 41), none⟩ :: ⟨some 43, .move (.tmp 9), none⟩ :: ⟨some 44, .call { callee := .value (.func 75), args := #[(.tmp 42), (.tmp 43)], argTypes := #[26, 24] }, none⟩ :: r_wal_Append_8)) (.keep [4, 7, 8, 11])) kc270)
@[go_sem ↓] def uq349 := @unC _ _ kc271.eq_1
def kc272 : C := (.seq (.seq (.reg (⟨some 31, .fieldAddr 114 (.tmp 7) 0, none⟩ :: ⟨some 32, .fieldAddr 31 (.tmp 31) 2, none⟩ :: ⟨some 33, .load 3 (.tmp 32), none⟩ :: ⟨some 34, .move (.tmp 1), none⟩ :: ⟨some 35, .build 47 #[(0, (.tmp 33)), (1, (.tmp 34))], none⟩ :: ⟨some 36, .call { callee := .value (.func 11), args := #[(.tmp 35)], argTypes := #[47] }, none⟩ :: r_wal_Append_7)) (.keep [4, 7, 9])) kc271)
@[go_sem ↓] def uq350 := @unC _ _ kc272.eq_1
def kc273 : C := (.seq (.seq (.seq (.reg ([⟨some 25, .fieldAddr 114 (.tmp 7) 0, none⟩, ⟨some 26, .fieldAddr 31 (.tmp 25) 2, none⟩, ⟨some 27, .load 3 (.tmp 26), none⟩, ⟨some 28, .binOp .gtr 3 (.tmp 27) (.const (.int .i64 1000000000)) 3, none⟩])) (.keep [1, 4, 7, 28])) kc266) kc272)
@[go_sem ↓] def uq351 := @unC _ _ kc273.eq_1
def kc274 : C := (.seq (.seq (.seq (.reg ([⟨some 21, .move (.tmp 1), none⟩, ⟨some 22, .call { callee := .builtin .len, args := #[(.tmp 21)], argTypes := #[24] }, none⟩, ⟨some 23, .binOp .gtr 3 (.tmp 22) (.const (.int .i64 1000)) 3, none⟩])) (.keep [1, 4, 7, 23])) kc264) kc273)
@[go_sem ↓] def uq352 := @unC _ _ kc274.eq_1
def kc275 : C := (.seq (.seq (.seq (.reg ([⟨some 17, .move (.tmp 8), none⟩, ⟨some 18, .binOp .neq 35 (.tmp 17) (.const (.int .i64 0)) 35, none⟩])) (.keep [1, 4, 7, 8, 18])) kc262) kc274)
@[go_sem ↓] def uq353 := @unC _ _ kc275.eq_1
def kc276 : C := (.seq (.seq (.reg (⟨some 13, .load 31 (.tmp 2), none⟩ :: ⟨some 14, .call { callee := .value (.func 63), args := #[(.tmp 13)], argTypes := #[31] }, none⟩ :: r_wal_Append_0)) (.keep [1, 4, 7, 8])) kc275)
@[go_sem ↓] def uq354 := @unC _ _ kc276.eq_1
def c_wal_Append : C := (.seq (.seq (.reg ([⟨some 2, .box 31 (.tmp 0), none⟩, ⟨some 4, .alloc 31, none⟩, ⟨some 5, .assign (.const (.int .i64 0)), none⟩, ⟨some 6, .assign (.const (.int .i64 0)), none⟩])) (.keep [1, 2, 4])) kc276)
attribute [go_sem ↓] c_wal_Append
def h_wal_Append : List Hint := [⟨[], [1, 2, 4], []⟩, ⟨[], [1, 4, 7, 8], []⟩, ⟨[], [1, 4, 7, 8, 18], []⟩, ⟨[], [4, 5, 6], []⟩, ⟨[], [1, 4, 7, 23], []⟩, ⟨[], [4, 5, 6], []⟩, ⟨[], [1, 4, 7, 28], []⟩, ⟨[], [4, 5, 6], []⟩, ⟨[], [4, 7, 9], []⟩, ⟨[], [4, 7, 8, 11], []⟩, ⟨[], [4, 7, 8, 11, 48], []⟩, ⟨[], [4, 5, 6], []⟩, ⟨[], [4, 5, 6], []⟩]
theorem b_wal_Append : Body Try.prog 37 [] h_wal_Append c_wal_Append 64 [.cell 4 31, .tmp 5, .tmp 6] := body_of Try.func37 (by kernel_rfl) (by kernel_rfl) (by kernel_rfl) (by kernel_rfl)
def c_wal_Crash : C := (.seq (.seq (.reg ([⟨some 2, .box 31 (.tmp 0), none⟩, ⟨some 4, .alloc 26, none⟩, ⟨some 5, .assign (.const (.int .i64 0)), none⟩])) (.keep [1, 2, 4])) (.seq (.seq (.reg ([⟨some 9, .load 31 (.tmp 2), none⟩, ⟨some 10, .call { callee := .value (.func 63), args := #[(.tmp 9)], argTypes := #[31] }, none⟩, ⟨some 8, .move (.tmp 10), none⟩, ⟨some 11, .extract (.tmp 8) 0, none⟩, ⟨some 12, .extract (.tmp 8) 1, none⟩, ⟨some 6, .alloc 114, none⟩, ⟨none, .store 114 (.tmp 6) (.tmp 11), none⟩, ⟨some 7, .assign (.tmp 12), none⟩])) (.keep [1, 4, 6, 7])) (.seq (.seq (.seq (.reg ([⟨some 13, .move (.tmp 7), none⟩, ⟨some 14, .binOp .neq 35 (.tmp 13) (.const (.int .i64 0)) 35, none⟩])) (.keep [1, 4, 6, 7, 14])) (.cond (.tmp 14) (.seq (.seq (.reg ([⟨some 15, .build 26 #[], none⟩, ⟨some 16, .move (.tmp 7), none⟩, ⟨none, .store 26 (.tmp 4) (.tmp 15), none⟩, ⟨some 5, .assign (.tmp 16), none⟩])) (.keep [4, 5])) .ret) .skip)) (.seq (.seq (.reg ([⟨some 17, .fieldAddr 114 (.tmp 6) 0, none⟩, ⟨some 18, .fieldAddr 31 (.tmp 17) 0, none⟩, ⟨some 19, .load 26 (.tmp 18), none⟩, ⟨some 20, .move (.tmp 1), none⟩, ⟨some 21, .call { callee := .value (.func 52), args := #[(.tmp 19), (.tmp 20)], argTypes := #[26, 3] }, none⟩, ⟨some 22, .extract (.tmp 21) 0, none⟩, ⟨some 23, .extract (.tmp 21) 1, none⟩, ⟨none, .store 26 (.tmp 4) (.tmp 22), none⟩, ⟨some 5, .assign (.tmp 23), none⟩])) (.keep [4, 5])) .ret))))
attribute [go_sem ↓] c_wal_Crash
def h_wal_Crash : List Hint := [⟨[], [1, 2, 4], []⟩, ⟨[], [1, 4, 6, 7], []⟩, ⟨[], [1, 4, 6, 7, 14], []⟩, ⟨[], [4, 5], []⟩, ⟨[], [4, 5], []⟩]
theorem b_wal_Crash : Body Try.prog 47 [] h_wal_Crash c_wal_Crash 24 [.cell 4 26, .tmp 5] := body_of Try.func47 (by kernel_rfl) (by kernel_rfl) (by kernel_rfl) (by kernel_rfl)
def c_wal_Records : C := (.seq (.seq (.reg ([⟨some 2, .box 31 (.tmp 0), none⟩, ⟨some 4, .assign (.const (.slice none 0 0)), none⟩, ⟨some 5, .assign (.const (.int .i64 0)), none⟩])) (.keep [1, 2])) (.seq (.seq (.reg ([⟨some 9, .load 31 (.tmp 2), none⟩, ⟨some 10, .call { callee := .value (.func 63), args := #[(.tmp 9)], argTypes := #[31] }, none⟩, ⟨some 8, .move (.tmp 10), none⟩, ⟨some 11, .extract (.tmp 8) 0, none⟩, ⟨some 12, .extract (.tmp 8) 1, none⟩, ⟨some 6, .alloc 114, none⟩, ⟨none, .store 114 (.tmp 6) (.tmp 11), none⟩, ⟨some 7, .assign (.tmp 12), none⟩])) (.keep [1, 6, 7])) (.seq (.seq (.seq (.reg ([⟨some 13, .move (.tmp 7), none⟩, ⟨some 14, .binOp .neq 35 (.tmp 13) (.const (.int .i64 0)) 35, none⟩])) (.keep [1, 6, 7, 14])) (.cond (.tmp 14) (.seq (.seq (.reg ([⟨some 15, .move (.tmp 7), none⟩, ⟨some 4, .assign (.const (.slice none 0 0)), none⟩, ⟨some 5, .assign (.tmp 15), none⟩])) (.keep [4, 5])) .ret) .skip)) (.seq (.seq (.seq (.reg ([⟨some 16, .move (.tmp 1), none⟩, ⟨some 17, .fieldAddr 114 (.tmp 6) 0, none⟩, ⟨some 18, .fieldAddr 31 (.tmp 17) 1, none⟩, ⟨some 19, .load 3 (.tmp 18), none⟩, ⟨some 20, .binOp .lss 3 (.tmp 16) (.tmp 19) 3, none⟩, ⟨some 21, .move (.tmp 20), none⟩, ⟨some 22, .move (.tmp 1), some (21, false)⟩, ⟨some 23, .fieldAddr 114 (.tmp 6) 0, some (21, false)⟩, ⟨some 24, .fieldAddr 31 (.tmp 23) 2, some (21, false)⟩, ⟨some 25, .load 3 (.tmp 24), some (21, false)⟩, ⟨some 26, .binOp .gtr 3 (.tmp 22) (.tmp 25) 3, some (21, false)⟩, ⟨some 27, .pick (.tmp 21) (.const (.bool true)) (.tmp 26), none⟩])) (.keep [1, 6, 27])) (.cond (.tmp 27) (.seq (.seq (.reg ([⟨some 4, .assign (.const (.slice none 0 0)), none⟩, ⟨some 5, .assign (.const (.int .i64 2)), none⟩])) (.keep [4, 5])) .ret) .skip)) (.seq (.seq (.reg ([⟨some 28, .fieldAddr 114 (.tmp 6) 1, none⟩, ⟨some 29, .load 96 (.tmp 28), none⟩, ⟨some 30, .move (.tmp 1), none⟩, ⟨some 31, .fieldAddr 114 (.tmp 6) 0, none⟩, ⟨some 32, .fieldAddr 31 (.tmp 31) 1, none⟩, ⟨some 33, .load 3 (.tmp 32), none⟩, ⟨some 34, .binOp .sub 3 (.tmp 30) (.tmp 33) 3, none⟩, ⟨some 35, .slice 96 (.tmp 29) (some (.tmp 34)) none none, none⟩, ⟨some 4, .assign (.tmp 35), none⟩, ⟨some 5, .assign (.const (.int .i64 0)), none⟩])) (.keep [4, 5])) .ret)))))
attribute [go_sem ↓] c_wal_Records
def h_wal_Records : List Hint := [⟨[], [1, 2], []⟩, ⟨[], [1, 6, 7], []⟩, ⟨[], [1, 6, 7, 14], []⟩, ⟨[], [4, 5], []⟩, ⟨[], [1, 6, 27], []⟩, ⟨[], [4, 5], []⟩, ⟨[], [4, 5], []⟩]
theorem b_wal_Records : Body Try.prog 48 [] h_wal_Records c_wal_Records 36 [.tmp 4, .tmp 5] := body_of Try.func48 (by kernel_rfl) (by kernel_rfl) (by kernel_rfl) (by kernel_rfl)
def c_wal_Check : C := (.seq (.seq (.reg ([⟨some 1, .box 31 (.tmp 0), none⟩, ⟨some 2, .assign (.const (.int .i64 0)), none⟩])) (.keep [1])) (.seq (.seq (.reg ([⟨some 6, .load 31 (.tmp 1), none⟩, ⟨some 7, .call { callee := .value (.func 63), args := #[(.tmp 6)], argTypes := #[31] }, none⟩, ⟨some 5, .move (.tmp 7), none⟩, ⟨some 8, .extract (.tmp 5) 0, none⟩, ⟨some 9, .extract (.tmp 5) 1, none⟩, ⟨some 3, .alloc 114, none⟩, ⟨none, .store 114 (.tmp 3) (.tmp 8), none⟩, ⟨some 4, .assign (.tmp 9), none⟩])) (.keep [4])) (.seq (.seq (.reg ([⟨some 10, .move (.tmp 4), none⟩, ⟨some 2, .assign (.tmp 10), none⟩])) (.keep [2])) .ret)))
attribute [go_sem ↓] c_wal_Check
def h_wal_Check : List Hint := [⟨[], [1], []⟩, ⟨[], [4], []⟩, ⟨[], [2], []⟩]
theorem b_wal_Check : Body Try.prog 58 [] h_wal_Check c_wal_Check 11 [.tmp 2] := body_of Try.func58 (by kernel_rfl) (by kernel_rfl) (by kernel_rfl) (by kernel_rfl)
def c_wal_bytes : C := (.seq (.seq (.reg ([⟨some 1, .box 26 (.tmp 0), none⟩, ⟨some 2, .assign (.const (.slice none 0 0)), none⟩])) (.keep [1])) (.seq (.seq (.reg ([⟨some 3, .fieldAddr 26 (.tmp 1) 0, none⟩, ⟨some 4, .load 24 (.tmp 3), none⟩, ⟨some 5, .fieldAddr 26 (.tmp 1) 1, none⟩, ⟨some 6, .load 24 (.tmp 5), none⟩, ⟨some 7, .buildSlice 138 2 #[(0, (.tmp 4)), (1, (.tmp 6))], none⟩, ⟨some 8, .call { callee := .value (.func 72), args := #[(.tmp 7)], argTypes := #[138] }, none⟩, ⟨some 2, .assign (.tmp 8), none⟩])) (.keep [2])) .ret))
attribute [go_sem ↓] c_wal_bytes
def h_wal_bytes : List Hint := [⟨[], [1], []⟩, ⟨[], [2], []⟩]
theorem b_wal_bytes : Body Try.prog 60 [] h_wal_bytes c_wal_bytes 9 [.tmp 2] := body_of Try.func60 (by kernel_rfl) (by kernel_rfl) (by kernel_rfl) (by kernel_rfl)
def r_wal_look_0 : List I := [⟨some 11, .binOp .neq 35 (.tmp 10) (.const (.int .i64 0)) 35, none⟩, ⟨some 12, .move (.tmp 11), none⟩, ⟨some 13, .fieldAddr 31 (.tmp 1) 0, some (12, false)⟩, ⟨some 14, .fieldAddr 26 (.tmp 13) 3, some (12, false)⟩, ⟨some 15, .load 4 (.tmp 14), some (12, false)⟩, ⟨some 16, .pick (.tmp 12) (.const (.bool true)) (.tmp 15), none⟩]
@[go_sem ↓] def uq355 := @unI _ _ r_wal_look_0.eq_1
def kc277 : C := (.seq (.seq (.reg ([⟨some 17, .build 114 #[], none⟩, ⟨none, .store 114 (.tmp 2) (.tmp 17), none⟩, ⟨some 3, .assign (.const (.int .i64 8)), none⟩])) (.keep [2, 3])) .ret)
@[go_sem ↓] def uq356 := @unC _ _ kc277.eq_1
def kc278 : C := (.cond (.tmp 16) kc277 .skip)
@[go_sem ↓] def uq357 := @unC _ _ kc278.eq_1
def r_wal_look_3 : List I := [⟨some 4, .assign (.tmp 20), none⟩]
@[go_sem ↓] def uq358 := @unI _ _ r_wal_look_3.eq_1
def r_wal_look_4 : List I := [⟨some 21, .move (.tmp 23), none⟩, ⟨some 24, .extract (.tmp 21) 0, none⟩, ⟨some 25, .extract (.tmp 21) 1, none⟩, ⟨some 26, .extract (.tmp 21) 2, none⟩, ⟨some 5, .assign (.tmp 24), none⟩, ⟨some 6, .assign (.tmp 25), none⟩, ⟨some 7, .assign (.tmp 26), none⟩]
@[go_sem ↓] def uq359 := @unI _ _ r_wal_look_4.eq_1
def kc279 : C := (.seq (.seq (.reg ([⟨some 45, .build 114 #[], none⟩, ⟨none, .store 114 (.tmp 2) (.tmp 45), none⟩, ⟨some 3, .assign (.const (.int .i64 8)), none⟩])) (.keep [2, 3])) .ret)
@[go_sem ↓] def uq360 := @unC _ _ kc279.eq_1
def kc280 : C := (.cond (.tmp 44) kc279 .skip)
@[go_sem ↓] def uq361 := @unC _ _ kc280.eq_1
def kc281 : C := (.seq (.seq (.reg ([⟨some 73, .build 114 #[], none⟩, ⟨none, .store 114 (.tmp 2) (.tmp 73), none⟩, ⟨some 3, .assign (.const (.int .i64 8)), none⟩])) (.keep [2, 3])) .ret)
@[go_sem ↓] def uq362 := @unC _ _ kc281.eq_1
def kc282 : C := (.cond (.tmp 72) kc281 .skip)
@[go_sem ↓] def uq363 := @unC _ _ kc282.eq_1
def kc283 : C := (.seq (.seq (.reg ([⟨some 74, .load 31 (.tmp 1), none⟩, ⟨some 75, .move (.tmp 5), none⟩, ⟨some 76, .build 114 #[(0, (.tmp 74)), (1, (.tmp 75))], none⟩, ⟨none, .store 114 (.tmp 2) (.tmp 76), none⟩, ⟨some 3, .assign (.const (.int .i64 0)), none⟩])) (.keep [2, 3])) .ret)
@[go_sem ↓] def uq364 := @unC _ _ kc283.eq_1
def kc284 : C := (.seq (.seq (.seq (.draw ([⟨⟨some 46, .move (.tmp 5), none⟩, []⟩, ⟨⟨some 47, .call { callee := .builtin .len, args := #[(.tmp 46)], argTypes := #[96] }, none⟩, []⟩, ⟨⟨some 48, .binOp .eql 3 (.tmp 47) (.const (.int .i64 0)) 3, none⟩, []⟩, ⟨⟨some 49, .move (.tmp 48), none⟩, []⟩, ⟨⟨some 50, .fieldAddr 31 (.tmp 1) 1, some (49, true)⟩, []⟩, ⟨⟨some 51, .load 3 (.tmp 50), some (49, true)⟩, []⟩, ⟨⟨some 52, .binOp .lss 3 (.tmp 51) (.const (.int .i64 0)) 3, some (49, true)⟩, []⟩, ⟨⟨some 53, .move (.tmp 52), some (49, true)⟩, []⟩, ⟨⟨some 54, .fieldAddr 31 (.tmp 1) 1, some (53, false)⟩, []⟩, ⟨⟨some 55, .load 3 (.tmp 54), some (53, false)⟩, []⟩, ⟨⟨some 56, .binOp .gtr 3 (.tmp 55) (.const (.int .i64 1000000001)) 3, some (53, false)⟩, []⟩, ⟨⟨some 57, .pick (.tmp 53) (.const (.bool true)) (.tmp 56), some (49, true)⟩, []⟩, ⟨⟨some 58, .pick (.tmp 49) (.tmp 57) (.const (.bool false)), none⟩, []⟩, ⟨⟨some 59, .move (.tmp 58), none⟩, []⟩, ⟨⟨some 60, .move (.tmp 5), some (59, false)⟩, []⟩, ⟨⟨some 61, .call { callee := .builtin .len, args := #[(.tmp 60)], argTypes := #[96] }, some (59, false)⟩, []⟩, ⟨⟨some 62, .binOp .gtr 3 (.tmp 61) (.const (.int .i64 0)) 3, some (59, false)⟩, []⟩, ⟨⟨some 63, .move (.tmp 62), some (59, false)⟩, []⟩, ⟨⟨some 64, .move (.tmp 5), some (63, true)⟩, []⟩, ⟨⟨some 65, .indexAddr 96 (.tmp 64) (.const (.int .i64 0)), some (63, true)⟩, []⟩, ⟨⟨some 66, .fieldAddr 47 (.tmp 65) 0, some (63, true)⟩, []⟩, ⟨⟨some 67, .load 3 (.tmp 66), some (63, true)⟩, []⟩, ⟨⟨some 68, .fieldAddr 31 (.tmp 1) 1, some (63, true)⟩, [18, 19, 20, 21]⟩, ⟨⟨some 69, .load 3 (.tmp 68), some (63, true)⟩, [18, 19, 20, 21]⟩, ⟨⟨some 70, .binOp .neq 3 (.tmp 67) (.tmp 69) 3, some (63, true)⟩, []⟩, ⟨⟨some 71, .pick (.tmp 63) (.tmp 70) (.const (.bool false)), some (59, false)⟩, []⟩, ⟨⟨some 72, .pick (.tmp 59) (.const (.bool true)) (.tmp 71), none⟩, []⟩])) (.keep [1, 2, 5, 72])) kc282) kc283)
@[go_sem ↓] def uq365 := @unC _ _ kc284.eq_1
def kc285 : C := (.seq (.seq (.seq (.reg ([⟨some 27, .move (.tmp 7), none⟩, ⟨some 28, .binOp .neq 35 (.tmp 27) (.const (.int .i64 0)) 35, none⟩, ⟨some 29, .move (.tmp 28), none⟩, ⟨some 30, .move (.tmp 6), some (29, false)⟩, ⟨some 31, .move (.tmp 4), some (29, false)⟩, ⟨some 32, .call { callee := .builtin .len, args := #[(.tmp 31)], argTypes := #[24] }, some (29, false)⟩, ⟨some 33, .binOp .neq 3 (.tmp 30) (.tmp 32) 3, some (29, false)⟩, ⟨some 34, .pick (.tmp 29) (.const (.bool true)) (.tmp 33), none⟩, ⟨some 35, .move (.tmp 34), none⟩, ⟨some 36, .fieldAddr 31 (.tmp 1) 2, some (35, false)⟩, ⟨some 37, .load 3 (.tmp 36), some (35, false)⟩, ⟨some 38, .fieldAddr 31 (.tmp 1) 1, some (35, false)⟩, ⟨some 39, .load 3 (.tmp 38), some (35, false)⟩, ⟨some 40, .binOp .sub 3 (.tmp 37) (.tmp 39) 3, some (35, false)⟩, ⟨some 41, .move (.tmp 5), some (35, false)⟩, ⟨some 42, .call { callee := .builtin .len, args := #[(.tmp 41)], argTypes := #[96] }, some (35, false)⟩, ⟨some 43, .binOp .neq 3 (.tmp 40) (.tmp 42) 3, some (35, false)⟩, ⟨some 44, .pick (.tmp 35) (.const (.bool true)) (.tmp 43), none⟩])) (.keep [1, 2, 5, 44])) kc280) kc284)
@[go_sem ↓] def uq366 := @unC _ _ kc285.eq_1
def kc286 : C := (.seq (.seq (.reg (⟨some 22, .move (.tmp 4), none⟩ :: ⟨some 23, .call { callee := .value (.func 46), args := #[(.tmp 22)], argTypes := #[24] }, none⟩ :: r_wal_look_4)) (.keep [1, 2, 4, 5, 6, 7])) kc285)
@[go_sem ↓] def uq367 := @unC _ _ kc286.eq_1
def kc287 : C := (.seq (.seq (.reg (⟨some 18, .fieldAddr 31 (.tmp 1) 0, none⟩ :: ⟨some 19, .load 26 (.tmp 18), none⟩ :: ⟨some 20, .call { callee := .value (.func 60), args := #[(.tmp 19)], argTypes := #[26] }, none⟩ :: r_wal_look_3)) (.keep [1, 2, 4])) kc286)
@[go_sem ↓] def uq368 := @unC _ _ kc287.eq_1
def kc288 : C := (.seq (.seq (.seq (.reg (⟨some 8, .fieldAddr 31 (.tmp 1) 0, none⟩ :: ⟨some 9, .load 26 (.tmp 8), none⟩ :: ⟨some 10, .call { callee := .value (.func 39), args := #[(.tmp 9)], argTypes := #[26] }, none⟩ :: r_wal_look_0)) (.keep [1, 2, 16])) kc278) kc287)
@[go_sem ↓] def uq369 := @unC _ _ kc288.eq_1
def c_wal_look : C := (.seq (.seq (.reg ([⟨some 1, .box 31 (.tmp 0), none⟩, ⟨some 2, .alloc 114, none⟩, ⟨some 3, .assign (.const (.int .i64 0)), none⟩])) (.keep [1, 2])) kc288)
attribute [go_sem ↓] c_wal_look
def h_wal_look : List Hint := [⟨[], [1, 2], []⟩, ⟨[], [1, 2, 16], []⟩, ⟨[], [2, 3], []⟩, ⟨[], [1, 2, 4], []⟩, ⟨[], [1, 2, 4, 5, 6, 7], []⟩, ⟨[], [1, 2, 5, 44], []⟩, ⟨[], [2, 3], []⟩, ⟨[], [1, 2, 5, 72], []⟩, ⟨[], [2, 3], []⟩, ⟨[], [2, 3], []⟩]
theorem b_wal_look : Body Try.prog 63 [] h_wal_look c_wal_look 77 [.cell 2 114, .tmp 3] := body_of Try.func63 (by kernel_rfl) (by kernel_rfl) (by kernel_rfl) (by kernel_rfl)
def c_wal_view_with : C := (.seq (.seq (.reg ([⟨some 4, .box 114 (.tmp 0), none⟩, ⟨some 5, .box 26 (.tmp 1), none⟩, ⟨some 8, .alloc 31, none⟩])) (.keep [2, 3, 5, 8])) (.seq (.seq (.reg ([⟨some 9, .load 26 (.tmp 5), none⟩, ⟨some 10, .move (.tmp 2), none⟩, ⟨some 11, .move (.tmp 3), none⟩, ⟨some 12, .build 31 #[(0, (.tmp 9)), (1, (.tmp 10)), (2, (.tmp 11))], none⟩, ⟨none, .store 31 (.tmp 8) (.tmp 12), none⟩])) (.keep [8])) .ret))
attribute [go_sem ↓] c_wal_view_with
def h_wal_view_with : List Hint := [⟨[], [2, 3, 5, 8], []⟩, ⟨[], [8], []⟩]
theorem b_wal_view_with : Body Try.prog 64 [] h_wal_view_with c_wal_view_with 13 [.cell 8 31] := body_of Try.func64 (by kernel_rfl) (by kernel_rfl) (by kernel_rfl) (by kernel_rfl)
def c_wal_view_synced : C := (.seq (.seq (.reg ([⟨some 1, .box 114 (.tmp 0), none⟩, ⟨some 2, .assign (.const (.int .i64 0)), none⟩])) (.keep [1])) (.seq (.seq (.reg ([⟨some 5, .makeFunc (.func 83) #[] #[(.tmp 1)], none⟩, ⟨some 3, .assign (.tmp 5), none⟩])) (.keep [1, 3])) (.seq (.seq (.seq (.reg ([⟨some 6, .fieldAddr 114 (.tmp 1) 1, none⟩, ⟨some 7, .load 96 (.tmp 6), none⟩, ⟨some 8, .move (.tmp 3), none⟩, ⟨some 9, .call { callee := .value (.func 84), args := #[(.tmp 7), (.tmp 8)], argTypes := #[96, 80] }, none⟩, ⟨some 4, .assign (.tmp 9), none⟩])) (.keep [1, 4])) (.seq (.seq (.reg ([⟨some 10, .move (.tmp 4), none⟩, ⟨some 11, .binOp .geq 3 (.tmp 10) (.const (.int .i64 0)) 3, none⟩])) (.keep [1, 4, 11])) (.cond (.tmp 11) (.seq (.seq (.reg ([⟨some 12, .fieldAddr 114 (.tmp 1) 0, none⟩, ⟨some 13, .fieldAddr 31 (.tmp 12) 1, none⟩, ⟨some 14, .load 3 (.tmp 13), none⟩, ⟨some 15, .move (.tmp 4), none⟩, ⟨some 16, .binOp .add 3 (.tmp 14) (.tmp 15) 3, none⟩, ⟨some 2, .assign (.tmp 16), none⟩])) (.keep [2])) .ret) .skip))) (.seq (.seq (.reg ([⟨some 17, .fieldAddr 114 (.tmp 1) 0, none⟩, ⟨some 18, .fieldAddr 31 (.tmp 17) 2, none⟩, ⟨some 19, .load 3 (.tmp 18), none⟩, ⟨some 2, .assign (.tmp 19), none⟩])) (.keep [2])) .ret))))
attribute [go_sem ↓] c_wal_view_synced
def h_wal_view_synced : List Hint := [⟨[], [1], []⟩, ⟨[], [1, 3], []⟩, ⟨[], [1, 4], []⟩, ⟨[], [1, 4, 11], []⟩, ⟨[], [2], []⟩, ⟨[], [2], []⟩]
theorem b_wal_view_synced : Body Try.prog 68 [] h_wal_view_synced c_wal_view_synced 20 [.tmp 2] := body_of Try.func68 (by kernel_rfl) (by kernel_rfl) (by kernel_rfl) (by kernel_rfl)
def c_wal_view_size : C := (.seq (.seq (.reg ([⟨some 2, .box 114 (.tmp 0), none⟩, ⟨some 4, .assign (.const (.int .i64 0)), none⟩])) (.keep [1, 2])) (.seq (.seq (.reg ([⟨some 5, .assign (.const (.int .i64 0)), none⟩])) (.keep [1, 2, 5])) (.seq (.seq (.seq (.reg ([⟨some 10, .fieldAddr 114 (.tmp 2) 1, none⟩, ⟨some 11, .load 96 (.tmp 10), none⟩, ⟨some 12, .move (.tmp 1), none⟩, ⟨some 13, .fieldAddr 114 (.tmp 2) 0, none⟩, ⟨some 14, .fieldAddr 31 (.tmp 13) 1, none⟩, ⟨some 15, .load 3 (.tmp 14), none⟩, ⟨some 16, .binOp .sub 3 (.tmp 12) (.tmp 15) 3, none⟩, ⟨some 17, .slice 96 (.tmp 11) none (some (.tmp 16)) none, none⟩, ⟨some 18, .call { callee := .builtin .len, args := #[(.tmp 17)], argTypes := #[96] }, none⟩, ⟨some 19, .move (.const (.int .i64 0)), none⟩])) (.keep [5, 17, 18, 19])) (.block 0 (.loop [] [5, 17, 18, 19] (.seq (.seq (.reg ([⟨some 20, .binOp .lss 3 (.tmp 19) (.tmp 18) 3, none⟩])) (.keep [5, 17, 18, 19, 20])) (.seq (.cond (.tmp 20) .skip (.exit 0)) (.seq (.block 1 (.seq (.seq (.reg ([⟨some 21, .indexAddr 96 (.tmp 17) (.tmp 19), none⟩, ⟨some 22, .load 47 (.tmp 21), none⟩, ⟨some 7, .alloc 47, none⟩, ⟨none, .store 47 (.tmp 7) (.tmp 22), none⟩])) (.keep [5, 7, 17, 18, 19])) (.seq (.seq (.reg ([⟨some 24, .load 47 (.tmp 7), none⟩, ⟨some 25, .call { callee := .value (.func 85), args := #[(.tmp 24)], argTypes := #[47] }, none⟩, ⟨some 23, .move (.tmp 25), none⟩, ⟨some 26, .extract (.tmp 23) 0, none⟩, ⟨some 27, .extract (.tmp 23) 1, none⟩, ⟨some 8, .assign (.tmp 26), none⟩, ⟨some 9, .assign (.tmp 27), none⟩])) (.keep [5, 8, 17, 18, 19])) (.seq (.reg ([⟨some 28, .move (.tmp 5), none⟩, ⟨some 29, .move (.tmp 8), none⟩, ⟨some 30, .binOp .add 3 (.tmp 28) (.tmp 29) 3, none⟩, ⟨some 5, .assign (.tmp 30), none⟩])) (.keep [5, 17, 18, 19]))))) (.seq (.reg ([⟨some 31, .binOp .add 3 (.tmp 19) (.const (.int .i64 1)) 3, none⟩, ⟨some 19, .move (.tmp 31), none⟩])) (.keep [5, 17, 18, 19])))))))) (.seq (.seq (.reg ([⟨some 32, .move (.tmp 5), none⟩, ⟨some 4, .assign (.tmp 32), none⟩])) (.keep [4])) .ret))))
attribute [go_sem ↓] c_wal_view_size
def h_wal_view_size : List Hint := [⟨[], [1, 2], []⟩, ⟨[], [1, 2, 5], []⟩, ⟨[], [5, 17, 18, 19], []⟩, ⟨[], [5, 17, 18, 19], []⟩, ⟨[], [5, 17, 18, 19, 20], []⟩, ⟨[], [5, 7, 17, 18, 19], []⟩, ⟨[], [5, 8, 17, 18, 19], []⟩, ⟨[], [5, 17, 18, 19], []⟩, ⟨[], [5, 17, 18, 19], []⟩, ⟨[], [4], []⟩]
theorem b_wal_view_size : Body Try.prog 70 [] h_wal_view_size c_wal_view_size 33 [.tmp 4] := body_of Try.func70 (by kernel_rfl) (by kernel_rfl) (by kernel_rfl) (by kernel_rfl)
def kc289 : C := (.seq (.seq (.reg ([⟨some 2, .box 47 (.tmp 0), none⟩, ⟨some 3, .assign (.const (.bool false)), none⟩])) (.keep [1, 2])) (.seq (.seq (.draw ([⟨⟨some 4, .load 114 (.tmp 1), none⟩, []⟩, ⟨⟨some 5, .fieldAddr 47 (.tmp 2) 0, none⟩, [0]⟩, ⟨⟨some 6, .load 3 (.tmp 5), none⟩, [0]⟩, ⟨⟨some 7, .binOp .add 3 (.tmp 6) (.const (.int .i64 1)) 3, none⟩, [0]⟩, ⟨⟨some 8, .call { callee := .value (.func 70), args := #[(.tmp 4), (.tmp 7)], argTypes := #[114, 3] }, none⟩, []⟩, ⟨⟨some 9, .fieldAddr 114 (.tmp 1) 0, none⟩, [0, 1, 2, 3, 4]⟩, ⟨⟨some 10, .fieldAddr 31 (.tmp 9) 0, none⟩, [0, 1, 2, 3, 4]⟩, ⟨⟨some 11, .fieldAddr 26 (.tmp 10) 0, none⟩, [0, 1, 2, 3, 4]⟩, ⟨⟨some 12, .load 24 (.tmp 11), none⟩, [0, 1, 2, 3, 4]⟩, ⟨⟨some 13, .call { callee := .builtin .len, args := #[(.tmp 12)], argTypes := #[24] }, none⟩, [0, 1, 2, 3, 4]⟩, ⟨⟨some 14, .binOp .gtr 3 (.tmp 8) (.tmp 13) 3, none⟩, []⟩, ⟨⟨some 3, .assign (.tmp 14), none⟩, []⟩])) (.keep [3])) .ret))
attribute [go_sem ↓] kc289
def h_wal_view_synced_1 : List Hint := [⟨[], [1, 2], []⟩, ⟨[], [3], []⟩]
theorem b_wal_view_synced_1 : Body Try.prog 83 [] h_wal_view_synced_1 kc289 15 [.tmp 3] := body_of Try.func83 (by kernel_rfl) (by kernel_rfl) (by kernel_rfl) (by kernel_rfl)
set_option maxHeartbeats 2000000
structure WLog where
  dev : Dev
  first : Int
  next : Int
  deriving DecidableEq
def WLog.cells (l : WLog) : List T := [.sl (bT l.dev.syn), .sl (bT l.dev.tail), .i .i64 l.dev.cap, .b l.dev.down, .i .i64 l.first, .i .i64 l.next]
attribute [go_sem] WLog.cells
def WLog.recs (l : WLog) : List Rec := scanL l.dev.all
def WLog.fine (l : WLog) : Prop := l.dev.small ∧ -9223372036854775808 ≤ l.first ∧ l.first ≤ 9223372036854775807 ∧ -9223372036854775808 ≤ l.next ∧ l.next ≤ 9223372036854775807
def WLog.ok (l : WLog) : Prop := l.dev.check = 0 ∧ l.dev.down = false ∧ (catR l.recs).length = l.dev.all.length ∧ l.next = l.first + l.recs.length ∧
  match l.recs with
  | [] => 0 ≤ l.first ∧ l.first ≤ 1000000001
  | r :: _ => r.num = l.first
instance decWLogOk (l : WLog) : Decidable l.ok := by
  unfold WLog.ok
  cases l.recs <;> infer_instance
def WLog.chk (l : WLog) : Int := if l.ok then 0 else 8
def viewV (l : WLog) : AV := .agg [.t (.sl (bT l.dev.syn)) false, .t (.sl (bT l.dev.tail)) false, .t (.i .i64 l.dev.cap) true, .t (.b l.dev.down) true, .t (.i .i64 l.first) true, .t (.i .i64 l.next) true, .t (.sl (recsT l.recs)) true]
theorem s_wal_bytes (d : Dev) (hd : d.small) : Spec Try.prog 60 [.agg d.cells] [.row 0 1 (bT d.all) true] (.row 0 0 0 d.all.length) := by
  refine spec_ko (hold mixed) b_wal_bytes [.row 0 1 (bT d.all) true] [.row 0 0 0 d.all.length] ?_
  have s1 := hd.1
  have s2 := hd.2
  have hl : catL [d.syn, d.tail] = d.all.length := by simp [catL, Dev.all]
  have hl2 : d.all.length ≤ 200000 := by simp [Dev.all]; omega
  have hf : [d.syn, d.tail].flatten = d.all := by simp [Dev.all]
  simp -implicitDefEqProofs only [go_sem, seval]
  first | refine call_k (s_slices_Concat [d.syn, d.tail] (by simp) (by omega)) ?_ (by simp -implicitDefEqProofs only [go_sem, seval, catE, List.map]) | refine call_d (s_slices_Concat [d.syn, d.tail] (by simp) (by omega)) ?_ (by simp -implicitDefEqProofs only [go_sem, seval, catE, List.map])
  rw [hf, hl]
  simp -implicitDefEqProofs only [go_sem, seval]
  refine ends_mk [2] ?_ ?_
  · simp -implicitDefEqProofs only [go_sem, seval, bT_take_self]
  · simp -implicitDefEqProofs only [go_sem, seval]
theorem bytes_count {bs : List (BitVec 8)} {m : List Rec} (h : ScanOK bs m) : m.length ≤ bs.length := by
  obtain ⟨q, hq⟩ := h.bytes
  have h1 : ∀ l : List Rec, l.length ≤ (catR l).length := by
    intro l
    induction l with
    | nil => exact Nat.zero_le _
    | cons r l ih =>
      have : (catR (r :: l)).length = (bytesL r).length + (catR l).length := by simp [catR]
      rw [this, bytesL_length, List.length_cons]
      omega
  have := h1 m
  rw [hq, List.length_append]
  omega
theorem rec_num {bs : List (BitVec 8)} {r : Rec} (h : r ∈ scanL bs) : 0 ≤ r.num ∧ r.num ≤ 1000000000 := by
  have := (scanL_ok bs).ok r h
  obtain ⟨h0, h1, _⟩ := r.ok_iff.1 this
  exact ⟨h0, h1⟩
def zeroV : T := .agg [.sl [], .sl [], .i .i64 0, .b false, .i .i64 0, .i .i64 0, .sl []]
theorem s_wal_look_ok (l : WLog) (hl : l.fine) (h : l.ok) : Spec Try.prog 63 [.agg l.cells] [] (.tup [viewV l, .t (.i .i64 0) true]) := by
  refine spec_ko (hold mixed) b_wal_look [] [viewV l, .t (.i .i64 0) true] ?_
  obtain ⟨hd, f0, f1, n0, n1⟩ := hl
  obtain ⟨hc, hdn, hu, hnx, hfi⟩ := h
  simp -implicitDefEqProofs only [go_sem, seval]
  refine call_k (s_disk_Check l.dev hd) ?_
  obtain ⟨k1, k2, k3⟩ := l.dev.ok_of hc
  have hal : (l.dev.all.length : Int) = l.dev.syn.length + l.dev.tail.length := by simp [Dev.all]
  have hsm := bytes_count (scanL_ok l.dev.all)
  simp -implicitDefEqProofs only [go_sem, seval, sk, hc, hdn]
  refine call_k (s_wal_bytes l.dev hd) ?_ (by simp -implicitDefEqProofs only [go_sem, seval, hdn])
  simp -implicitDefEqProofs only [go_sem, seval, sk]
  refine call_k (s_frame_Scan_ok l.dev.all (by omega)) ?_ (by simp -implicitDefEqProofs only [go_sem, seval, bT_take_self])
  unfold WLog.recs at hu hnx hfi
  have hub : ((((catR (scanL l.dev.all)).length : Nat) : Int) != ((l.dev.all.length : Nat) : Int)) = false := by simp [hu]
  have hw : IntKind.i64.wrap (l.next - l.first) = (((scanL l.dev.all).length : Nat) : Int) := by rw [IntKind.wrap_i64]; omega
  have hwb : (IntKind.i64.wrap (l.next - l.first) != (((scanL l.dev.all).length : Nat) : Int)) = false := by rw [hw]; simp
  have ev : viewV l = .agg [.t (.sl (bT l.dev.syn)) false, .t (.sl (bT l.dev.tail)) false, .t (.i .i64 l.dev.cap) true, .t (.b l.dev.down) true, .t (.i .i64 l.first) true, .t (.i .i64 l.next) true, .t (.sl (recsT (scanL l.dev.all))) true] := rfl
  rw [ev]
  generalize hrec : scanL l.dev.all = rs at *
  cases rs with
  | nil =>
    have z0 : ((([] : List Rec).length : Nat) : Int) = 0 := rfl
    have c0 : (l.first < 0) = False := eq_false (by have := hfi.1; omega)
    have c1 : (l.first > 1000000001) = False := eq_false (by have := hfi.2; omega)
    have c1' : (1000000001 < l.first) = False := eq_false (by have := hfi.2; omega)
    rw [z0] at hwb
    simp -implicitDefEqProofs only [go_sem, seval, sk, hub, recsT_length, hwb, z0, c0, c1, c1']
    refine ends_mk [] ?_ ?_
    · simp -implicitDefEqProofs only [go_sem, seval]
    · simp -implicitDefEqProofs only [go_sem, seval, hdn]
  | cons r rs =>
    have hfi : r.num = l.first := hfi
    have z0 : ((((r :: rs).length : Nat) : Int) == 0) = false := by simp; omega
    have z1 : (((r :: rs).length : Nat) : Int) > 0 := by rw [List.length_cons]; omega
    have z2 : (0 < (((r :: rs).length : Nat) : Int)) = True := eq_true z1
    have z3 : (recsT (r :: rs))[0]? = some r.cells := rfl
    rw [List.length_cons] at hwb z0 z1 z2
    have fb : (l.first != l.first) = false := by simp
    simp -implicitDefEqProofs only [go_sem, seval, sk, hub, recsT_length, hwb, z0, z1, z2, z3, Rec.cells, hfi, fb]
    refine ends_mk [] ?_ ?_
    · simp -implicitDefEqProofs only [go_sem, seval]
    · simp -implicitDefEqProofs only [go_sem, seval, hdn]
theorem s_wal_look_bad (l : WLog) (hl : l.fine) (h : ¬ l.ok) : Spec Try.prog 63 [.agg l.cells] [] (.tup [.t zeroV true, .t (.i .i64 8) true]) := by
  refine spec_k (hold mixed) b_wal_look [(zeroV, true), (.i .i64 8, true)] ?_
  obtain ⟨hd, f0, f1, n0, n1⟩ := hl
  have hc8 : l.dev.check = 8 ∨ l.dev.check = 0 := by unfold Dev.check; split <;> simp
  simp -implicitDefEqProofs only [go_sem, seval]
  refine call_k (s_disk_Check l.dev hd) ?_
  rcases hc8 with hc | hc
  · simp -implicitDefEqProofs only [go_sem, seval, sk, hc, zeroV]
  by_cases hdn : l.dev.down = true
  · simp -implicitDefEqProofs only [go_sem, seval, sk, hc, hdn, zeroV]
  replace hdn : l.dev.down = false := by simpa using hdn
  obtain ⟨k1, k2, k3⟩ := l.dev.ok_of hc
  have hal : (l.dev.all.length : Int) = l.dev.syn.length + l.dev.tail.length := by simp [Dev.all]
  simp -implicitDefEqProofs only [go_sem, seval, sk, hc, hdn]
  refine call_k (s_wal_bytes l.dev hd) ?_ (by simp -implicitDefEqProofs only [go_sem, seval, hdn])
  simp -implicitDefEqProofs only [go_sem, seval, sk]
  refine call_k (s_frame_Scan_ok l.dev.all (by omega)) ?_ (by simp -implicitDefEqProofs only [go_sem, seval, bT_take_self])
  by_cases hub : ((((catR (scanL l.dev.all)).length : Nat) : Int) != ((l.dev.all.length : Nat) : Int)) = true
  · simp -implicitDefEqProofs only [go_sem, seval, sk, hub, zeroV]
  replace hub : ((((catR (scanL l.dev.all)).length : Nat) : Int) != ((l.dev.all.length : Nat) : Int)) = false := by simpa using hub
  by_cases hwb : (IntKind.i64.wrap (l.next - l.first) != (((scanL l.dev.all).length : Nat) : Int)) = true
  · simp -implicitDefEqProofs only [go_sem, seval, sk, hub, recsT_length, hwb, zeroV]
  replace hwb : (IntKind.i64.wrap (l.next - l.first) != (((scanL l.dev.all).length : Nat) : Int)) = false := by simpa using hwb
  have hwe : IntKind.i64.wrap (l.next - l.first) = (((scanL l.dev.all).length : Nat) : Int) := by simpa using hwb
  rw [IntKind.wrap_i64] at hwe
  have hue : (catR (scanL l.dev.all)).length = l.dev.all.length := by simp at hub; omega
  unfold WLog.ok WLog.recs at h
  have hsm := bytes_count (scanL_ok l.dev.all)
  have hrn : ∀ r ∈ scanL l.dev.all, 0 ≤ r.num ∧ r.num ≤ 1000000000 := fun r hr => rec_num hr
  generalize hrec : scanL l.dev.all = rs at *
  cases rs with
  | nil =>
    have z0 : ((([] : List Rec).length : Nat) : Int) = 0 := rfl
    rw [z0] at hwb hwe h
    by_cases c0 : l.first < 0
    · simp -implicitDefEqProofs only [go_sem, seval, sk, hub, recsT_length, hwb, z0, c0, zeroV]
    by_cases c1 : 1000000001 < l.first
    · simp -implicitDefEqProofs only [go_sem, seval, sk, hub, recsT_length, hwb, z0, c0, c1, zeroV]
    · exact absurd ⟨hc, hdn, hue, by omega, by omega, by omega⟩ h
  | cons r rs =>
    have z0 : ((((r :: rs).length : Nat) : Int) == 0) = false := by simp; omega
    have z1 : (((r :: rs).length : Nat) : Int) > 0 := by rw [List.length_cons]; omega
    have z2 : (0 < (((r :: rs).length : Nat) : Int)) = True := eq_true z1
    have z3 : (recsT (r :: rs))[0]? = some r.cells := rfl
    rw [List.length_cons] at hwb z0 z1 z2
    have hr1 := hrn r (by simp)
    by_cases fb : (r.num != l.first) = true
    · simp -implicitDefEqProofs only [go_sem, seval, sk, hub, recsT_length, hwb, z0, z1, z2, z3, Rec.cells, fb, zeroV]
    · have fb' : r.num = l.first := by simpa using fb
      exact absurd ⟨hc, hdn, hue, by omega, fb'⟩ h
theorem chk_ok {l : WLog} (h : l.ok) : l.chk = 0 := if_pos h
theorem chk_bad {l : WLog} (h : ¬ l.ok) : l.chk = 8 := if_neg h
theorem s_wal_Check (l : WLog) (hl : l.fine) : Spec Try.prog 58 [.agg l.cells] [] (.t (.i .i64 l.chk) true) := by
  refine spec_k (hold mixed) b_wal_Check [(.i .i64 l.chk, true)] ?_
  by_cases h : l.ok
  · rw [chk_ok h]
    simp -implicitDefEqProofs only [go_sem, seval, sk]
    refine call_k (s_wal_look_ok l hl h) ?_
    simp -implicitDefEqProofs only [go_sem, seval, sk, viewV]
  · rw [chk_bad h]
    simp -implicitDefEqProofs only [go_sem, seval, sk]
    refine call_k (s_wal_look_bad l hl h) ?_
    simp -implicitDefEqProofs only [go_sem, seval, sk, zeroV]
theorem row_num {bs : List (BitVec 8)} {m : List Rec} (h : ScanOK bs m) : ∀ (k : Nat) (hk : k < m.length), m[k].num = (m[0]'(by omega)).num + k
  | 0, hk => by simp
  | k + 1, hk => by
    rw [h.row k hk, row_num h k (by omega)]
    omega
def viewC (l : WLog) : List T := [.sl (bT l.dev.syn), .sl (bT l.dev.tail), .i .i64 l.dev.cap, .b l.dev.down, .i .i64 l.first, .i .i64 l.next, .sl (recsT l.recs)]
theorem catR_lstep {m : List Rec} {k : Nat} (h : k < m.length) : (catR (m.take (k + 1))).length = (catR (m.take k)).length + (12 + m[k].data.length) := by
  rw [← List.take_append_getElem h, catR_append, catR_one, List.length_append, bytesL_length]
theorem ok_bounds {l : WLog} (h : l.ok) : 0 ≤ l.first ∧ l.first ≤ 1000000001 ∧ l.recs.length ≤ 20000 := by
  obtain ⟨hc, hdn, hu, hnx, hfi⟩ := h
  obtain ⟨k1, k2, k3⟩ := l.dev.ok_of hc
  have hal : (l.dev.all.length : Int) = l.dev.syn.length + l.dev.tail.length := by simp [Dev.all]
  have hsm := bytes_count (scanL_ok l.dev.all)
  have hrn : ∀ r ∈ scanL l.dev.all, 0 ≤ r.num ∧ r.num ≤ 1000000000 := fun r hr => rec_num hr
  unfold WLog.recs at *
  generalize hrec : scanL l.dev.all = rs at *
  cases rs with
  | nil => exact ⟨hfi.1, hfi.2, by omega⟩
  | cons r rs =>
    have h1 := hrn r (by simp)
    have : r.num = l.first := hfi
    exact ⟨by omega, by omega, by omega⟩
theorem catR_take_le (m : List Rec) (k : Nat) : (catR (m.take k)).length ≤ (catR m).length := by
  conv => rhs; rw [← List.take_append_drop k m]
  rw [catR_append, List.length_append]
  omega
theorem s_wal_view_size (l : WLog) (h : l.ok) (n : Nat) (hn : n ≤ l.recs.length) : Spec Try.prog 70 [.agg (viewC l), .i .i64 (l.first + n)] [] (.t (.i .i64 (catR (l.recs.take n)).length) true) := by
  refine spec_k (hold mixed) b_wal_view_size [(.i .i64 (catR (l.recs.take n)).length, true)] ?_
  obtain ⟨b0, b1, b2⟩ := ok_bounds h
  have hw : IntKind.i64.wrap (l.first + (n : Int) - l.first) = n := by rw [wrap_i64_id (by omega) (by omega)]; omega
  have e0 : ((n : Int) - 0).toNat = n := by omega
  have htk : List.take n (recsT l.recs) = recsT (l.recs.take n) := by simp [recsT, List.map_take]
  have hln : (l.recs.take n).length = n := by rw [List.length_take]; omega
  simp -implicitDefEqProofs only [go_sem, seval, sk, viewC, hw, e0, htk, recsT_length, hln]
  refine ⟨⟨by omega, .inl trivial⟩, ?_⟩
  refine loop_l (α := Nat) (fun k => ⟨tmL [(5, .t (.i .i64 (catR (l.recs.take k)).length) true), (17, .t (.sl (recsT (l.recs.take n))) false), (18, .t (.i .i64 n) true), (19, .t (.i .i64 k) true)],
    [.var [.t (.sl (bT l.dev.syn)) false, .t (.sl (bT l.dev.tail)) false, .t (.i .i64 l.dev.cap) false, .t (.b l.dev.down) false, .t (.i .i64 l.first) false, .t (.i .i64 l.next) false, .t (.sl (recsT l.recs)) false]]⟩) (fun k => n - k) (fun k => k ≤ n) 0 (by simp -implicitDefEqProofs only [go_sem, seval, catR] <;> rfl) (Nat.zero_le _) ?_
  intro k hk R hR
  simp -implicitDefEqProofs only [go_sem, seval, sk]
  refine wcond_mk (fun hh => ?_) (fun hh => ?_)
  · have hk' : k < n := by have := of_decide_eq_true hh; omega
    have hk2 : k < (l.recs.take n).length := by omega
    have hk3 : k < l.recs.length := by omega
    have hge : (l.recs.take n)[k] = l.recs[k] := List.getElem_take
    have hi : (k : Int) < (n : Int) := by omega
    have hmem := (scanL_ok l.dev.all).ok l.recs[k] (List.getElem_mem hk3)
    have hrd := (l.recs[k]).ok_iff.1 hmem
    have hS := s_frame_Size l.recs[k] (by omega)
    unfold sizeT at hS
    rw [if_pos hmem] at hS
    have hst := catR_lstep hk3
    have hcl := catR_take_le l.recs (k + 1)
    have hcu : (catR l.recs).length ≤ 20000 := by
      have := h.2.2.1
      have := l.dev.ok_of h.1
      have hal : (l.dev.all.length : Int) = l.dev.syn.length + l.dev.tail.length := by simp [Dev.all]
      omega
    have hw2 : IntKind.i64.wrap ((((catR (l.recs.take k)).length : Nat) : Int) + ((12 + l.recs[k].data.length : Nat) : Int)) = ((catR (l.recs.take (k + 1))).length : Nat) := by rw [wrap_i64_id (by omega) (by omega)]; omega
    simp -implicitDefEqProofs only [go_sem, seval, sk, recsT_get hk2, recsT_length, hln, hi, hge, Rec.cells]
    refine call_k hS ?_ (by simp -implicitDefEqProofs only [go_sem, seval, Rec.cells])
    simp -implicitDefEqProofs only [go_sem, seval, sk, hw2]
    refine hR (k + 1) _ ?_ (by omega) (by omega)
    simp -implicitDefEqProofs only [go_sem, seval, wrap_i64_id (show -9223372036854775808 ≤ (k : Int) + 1 by omega) (by omega), Int.natCast_add]
    try rfl
  · have hk' : ¬ k < n := by have := of_decide_eq_false hh; omega
    obtain rfl : k = n := by omega
    simp -implicitDefEqProofs only [go_sem, seval, sk]
def behindB (l : WLog) (r : Rec) : Bool := decide (l.dev.syn.length < (catR (l.recs.take (r.num + 1 - l.first).toNat)).length)
theorem head_num {f : Int} : ∀ {rs : List Rec} (_ : match rs with
    | [] => 0 ≤ f ∧ f ≤ 1000000001
    | r :: _ => r.num = f) (hp : 0 < rs.length), rs[0].num = f
  | [], _, hp => absurd hp (by simp)
  | _ :: _, h, _ => h
theorem rec_at {l : WLog} (h : l.ok) {i : Nat} (hi : i < l.recs.length) : l.recs[i].num = l.first + i := by
  have h1 : l.recs[i].num = (l.recs[0]'(by omega)).num + i := row_num (scanL_ok l.dev.all) i hi
  rw [h1, head_num h.2.2.2.2 (by omega)]
theorem s_wal_view_synced_1 (l : WLog) (h : l.ok) (r : Rec) (hr : r ∈ l.recs) : Spec Try.prog 83 [.agg r.cells, .pt (viewC l)] [] (.t (.b (behindB l r)) true) := by
  refine spec_k (hold mixed) b_wal_view_synced_1 [(.b (behindB l r), true)] ?_
  obtain ⟨i, hi, rfl⟩ := List.getElem_of_mem hr
  obtain ⟨b0, b1, b2⟩ := ok_bounds h
  have hnum := rec_at h hi
  have hw : IntKind.i64.wrap (l.recs[i].num + 1) = l.first + ((i + 1 : Nat) : Int) := by rw [wrap_i64_id (by omega) (by omega)]; omega
  have he : (l.recs[i].num + 1 - l.first).toNat = i + 1 := by omega
  have hd : ((((catR (l.recs.take (i + 1))).length : Nat) : Int) > ((l.dev.syn.length : Nat) : Int)) = (l.dev.syn.length < (catR (l.recs.take (i + 1))).length) := propext (by omega)
  unfold behindB
  rw [he]
  simp -implicitDefEqProofs only [go_sem, seval, Rec.cells, viewC, hw]
  first | refine call_d (s_wal_view_size l h (i + 1) (by omega)) ?_ (by simp -implicitDefEqProofs only [go_sem, seval, viewC]) | refine call_k (s_wal_view_size l h (i + 1) (by omega)) ?_ (by simp -implicitDefEqProofs only [go_sem, seval, viewC])
  simp -implicitDefEqProofs only [go_sem, seval, hd]
def syncV (l : WLog) : Int := match l.recs.findIdx? (behindB l) with
  | some i => l.first + (i : Nat)
  | none => l.next
theorem s_wal_view_synced (l : WLog) (h : l.ok) : Spec Try.prog 68 [.agg (viewC l)] [] (.t (.i .i64 (syncV l)) true) := by
  refine spec_k (hold mixed) b_wal_view_synced [(.i .i64 (syncV l), true)] ?_
  obtain ⟨b0, b1, b2⟩ := ok_bounds h
  simp -implicitDefEqProofs only [go_sem, seval, viewC]
  first | refine call_k (s_slices_IndexFunc l.recs 83 [.pt (viewC l)] (behindB l) (by omega) (fun r hr => s_wal_view_synced_1 l h r hr)) ?_ (by simp -implicitDefEqProofs only [go_sem, seval, viewC]) | skip
  unfold syncV ixF
  cases hx : l.recs.findIdx? (behindB l) with
  | none =>
    simp -implicitDefEqProofs only [go_sem, seval, sk]
  | some i =>
    have hi : i < l.recs.length := (List.findIdx?_eq_some_iff_getElem.1 hx).1
    have hw : IntKind.i64.wrap (l.first + (i : Int)) = l.first + i := wrap_i64_id (by omega) (by omega)
    simp -implicitDefEqProofs only [go_sem, seval, sk, hw]
theorem all_eq {l : WLog} (h : l.ok) : l.dev.all = catR l.recs := by
  obtain ⟨q, hq⟩ := (scanL_ok l.dev.all).bytes
  have hu : (catR (scanL l.dev.all)).length = l.dev.all.length := h.2.2.1
  have hl := congrArg List.length hq
  rw [List.length_append] at hl
  have : q = [] := List.eq_nil_of_length_eq_zero (by omega)
  rw [this, List.append_nil] at hq
  exact hq
theorem behind_at {l : WLog} (h : l.ok) {i : Nat} (hi : i < l.recs.length) : behindB l l.recs[i] = decide (l.dev.syn.length < (catR (l.recs.take (i + 1))).length) := by
  unfold behindB
  rw [rec_at h hi, show (l.first + (i : Int) + 1 - l.first).toNat = i + 1 by omega]
theorem syncV_eq {l : WLog} (h : l.ok) : syncV l = l.first + (scanL l.dev.syn).length := by
  have hall := all_eq h
  have hsyn : l.dev.syn = (catR l.recs).take l.dev.syn.length := by
    rw [← hall, Dev.all, List.take_left]
  have hle : l.dev.syn.length ≤ (catR l.recs).length := by rw [← hall, Dev.all, List.length_append]; omega
  have hf : follows l.recs = true := scanL_follows l.dev.all
  have key : ∀ k, k ≤ l.recs.length → (catR (l.recs.take k)).length ≤ l.dev.syn.length → (∀ (hk' : k < l.recs.length), l.dev.syn.length < (catR (l.recs.take (k + 1))).length) → (scanL l.dev.syn).length = k := fun k hk h1 h2 => by
    rw [hsyn, scan_torn hf hle hk h1 h2, List.length_take]
    omega
  unfold syncV
  cases hx : l.recs.findIdx? (behindB l) with
  | none =>
    have hn := List.findIdx?_eq_none_iff.1 hx
    have hk := key l.recs.length (Nat.le_refl _) (by
      rw [List.take_length]
      by_cases h0 : l.recs.length = 0
      · rw [List.eq_nil_of_length_eq_zero h0]; exact Nat.zero_le _
      · have h1 := hn l.recs[l.recs.length - 1] (List.getElem_mem _)
        rw [behind_at h (by omega), show l.recs.length - 1 + 1 = l.recs.length by omega, List.take_length] at h1
        have := of_decide_eq_false h1
        omega) (fun hk' => by omega)
    rw [hk]
    exact h.2.2.2.1
  | some i =>
    obtain ⟨hi, hp, hj⟩ := List.findIdx?_eq_some_iff_getElem.1 hx
    rw [behind_at h hi] at hp
    have hp := of_decide_eq_true hp
    have hk := key i (by omega) (by
      by_cases h0 : i = 0
      · subst h0; exact Nat.zero_le _
      · have h1 := hj (i - 1) (by omega)
        rw [behind_at h (by omega), show i - 1 + 1 = i by omega] at h1
        simp only [decide_eq_true_eq] at h1
        omega) (fun _ => hp)
    rw [hk]
def recR (l : WLog) (n : Int) : List Rec × Int := if l.ok then (if l.first ≤ n ∧ n ≤ l.next then (l.recs.drop (n - l.first).toNat, 0) else ([], 2)) else ([], 8)
def recT (p : List Rec × Int) : List (T × Bool) := [(.sl (recsT p.1), true), (.i .i64 p.2, true)]
theorem okEs_recs (l : List Rec) : okEs 2 (recsT l) := by
  intro e he
  simp only [recsT, List.mem_map] at he
  obtain ⟨o, _, rfl⟩ := he
  refine ⟨rfl, fun x hx => ?_⟩
  simp only [Rec.cells, List.mem_cons, List.not_mem_nil, or_false] at hx
  rcases hx with rfl | rfl <;> trivial
theorem recs_rest (l : List Rec) (n : Nat) (hn : n ≤ l.length) : List.take ((l.length : Int) - (n : Int)).toNat (List.drop n (recsT l)) = recsT (l.drop n) := by
  have : List.drop n (recsT l) = recsT (l.drop n) := by simp [recsT, List.map_drop]
  rw [this, List.take_of_length_le]
  rw [recsT_length, List.length_drop]
  omega
theorem s_wal_Records (l : WLog) (hl : l.fine) (n : Int) (h0 : -9223372036854775808 ≤ n) (h1 : n ≤ 9223372036854775807) : Spec Try.prog 48 [.agg l.cells, .i .i64 n] [] (resV ((recT (recR l n)).map AV.ofT)) := by
  refine spec_k (hold mixed) b_wal_Records (recT (recR l n)) ?_
  by_cases h : l.ok
  · obtain ⟨b0, b1, b2⟩ := ok_bounds h
    have hnx := h.2.2.2.1
    simp -implicitDefEqProofs only [go_sem, seval, sk]
    refine call_k (s_wal_look_ok l hl h) ?_
    by_cases c0 : n < l.first
    · have ev : recR l n = ([], 2) := by simp [recR, h]; omega
      rw [ev]
      simp -implicitDefEqProofs only [go_sem, seval, sk, viewV, c0, recT, recsT, List.map]
    by_cases c1 : l.next < n
    · have ev : recR l n = ([], 2) := by simp [recR, h]; omega
      rw [ev]
      simp -implicitDefEqProofs only [go_sem, seval, sk, viewV, c0, c1, recT, recsT, List.map]
    obtain ⟨m, hm⟩ : ∃ m : Nat, n = l.first + m := ⟨(n - l.first).toNat, by omega⟩
    have ev : recR l n = (l.recs.drop m, 0) := by
      have : (n - l.first).toNat = m := by omega
      simp [recR, h, this]
      omega
    have hw : IntKind.i64.wrap (n - l.first) = m := by rw [wrap_i64_id (by omega) (by omega)]; omega
    have hml : m ≤ l.recs.length := by omega
    rw [ev]
    simp -implicitDefEqProofs only [go_sem, seval, sk, viewV, c0, c1, hw, recsT_length, recs_rest _ _ hml, recT]
    exact ⟨by omega, .inr (okEs_recs _)⟩
  · simp -implicitDefEqProofs only [go_sem, seval, sk]
    refine call_k (s_wal_look_bad l hl h) ?_
    simp -implicitDefEqProofs only [go_sem, seval, sk, zeroV, recT, recR, h, recsT, List.map]
def WLog.crash (l : WLog) (n : Int) : Dev × Int := if l.ok then l.dev.crash n else (zeroD, 8)
theorem s_wal_Crash (l : WLog) (hl : l.fine) (n : Int) (h0 : -9223372036854775808 ≤ n) (h1 : n < 9223372036854775808) : Spec Try.prog 47 [.agg l.cells, .i .i64 n] [] (resV ((opR (l.crash n)).map AV.ofT)) := by
  refine spec_k (hold mixed) b_wal_Crash (opR (l.crash n)) ?_
  by_cases h : l.ok
  · have ev : l.crash n = l.dev.crash n := if_pos h
    rw [ev]
    simp -implicitDefEqProofs only [go_sem, seval, sk]
    refine call_k (s_wal_look_ok l hl h) ?_
    simp -implicitDefEqProofs only [go_sem, seval, sk, viewV]
    refine call_k (s_disk_Crash l.dev n hl.1 h0 h1) ?_
    simp -implicitDefEqProofs only [go_sem, seval, sk]
  · have ev : l.crash n = (zeroD, 8) := if_neg h
    rw [ev]
    simp -implicitDefEqProofs only [go_sem, seval, sk]
    refine call_k (s_wal_look_bad l hl h) ?_
    simp -implicitDefEqProofs only [go_sem, seval, sk, zeroV, zeroD, bT, List.map]
def zeroW : WLog := ⟨zeroD, 0, 0⟩
theorem zeroW_cells : zeroW.cells = [.sl [], .sl [], .i .i64 0, .b false, .i .i64 0, .i .i64 0] := rfl
def opW (p : WLog × Int) : List (T × Bool) := [(.agg p.1.cells, true), (.i .i64 p.2, true)]
theorem x_wal_with (us vs : List Value) (h1 : us.length = 4) (h2 : vs.length = 2) : Spec Try.prog 64 (.agg (List.replicate 7 .what) :: .agg (us.map .val) :: vs.map .val) [] (.t (.agg ((us ++ vs).map .val)) false) := by
  match us, h1 with
  | [u0, u1, u2, u3], _ =>
    match vs, h2 with
    | [v0, v1], _ =>
      refine spec_k (hold mixed) b_wal_view_with [(.agg [.val u0, .val u1, .val u2, .val u3, .val v0, .val v1], false)] ?_
      simp -implicitDefEqProofs only [go_sem, seval, sk, List.replicate]
      exact ⟨trivial, trivial, trivial, trivial, trivial, trivial⟩
def cutD (d : Dev) (u : Nat) : Dev := ⟨d.all.take u, [], d.cap, false⟩
theorem open_dev {e : Dev} (hc : e.check = 0) (hd : e.down = false) {u : Nat} (hu : u ≤ e.all.length) : (e.trunc (u : Int)).1.small ∧ ((e.trunc (u : Int)).1.sync).1 = cutD e u := by
  have hup := upE_of hc hd
  have e1 : e.trunc (u : Int) = (⟨e.syn.take u, e.tail.take (u - e.syn.length), e.cap, false⟩, 0) := by
    simp [Dev.trunc, orE, hup, hu]
  refine ⟨trunc_small _ _, ?_⟩
  have hck : (e.trunc (u : Int)).1.check = 0 := trunc_check (by rw [e1])
  rw [e1] at hck ⊢
  have hup2 := upE_of hck rfl
  simp only [Dev.sync, orE, hup2, if_true]
  simp only [cutD, Dev.all, List.take_append]
def Dev.last (d : Dev) (n : Int) : Option (Rec × Rec) := match scanL d.all with
  | [] => none
  | r :: rs => if n - 1 ≤ ((r :: rs).getLast (List.cons_ne_nil r rs)).num then some (r, (r :: rs).getLast (List.cons_ne_nil r rs)) else none
def Dev.used (d : Dev) : Nat := (catR (scanL d.all)).length
def openW (d : Dev) (n : Int) : WLog × Int := if d.check = 0 then (if 0 ≤ n ∧ n ≤ 1000000000 then (match d.last n with
  | some (r, s) => (⟨cutD d d.used, r.num, s.num + 1⟩, 0)
  | none => (⟨cutD d 0, n, n⟩, 0)) else (zeroW, 2)) else (zeroW, 8)
theorem used_le (d : Dev) : d.used ≤ d.all.length := by
  obtain ⟨q, hq⟩ := (scanL_ok d.all).bytes
  have := congrArg List.length hq
  rw [List.length_append] at this
  unfold Dev.used
  omega
theorem recs_last (r : Rec) (rs : List Rec) : (recsT (r :: rs))[rs.length]? = some ((r :: rs).getLast (List.cons_ne_nil r rs)).cells := by
  rw [recsT, List.getElem?_map, List.getLast_eq_getElem, List.getElem?_eq_getElem (by simp)]
  rfl
theorem openW_some {d : Dev} {n : Int} (hc : d.check = 0) (h0 : 0 ≤ n) (h1 : n ≤ 1000000000) {r : Rec} {rs : List Rec} (hs : scanL d.all = r :: rs) (hn : n - 1 ≤ ((r :: rs).getLast (List.cons_ne_nil r rs)).num) :
    openW d n = (⟨cutD d (catR (r :: rs)).length, r.num, ((r :: rs).getLast (List.cons_ne_nil r rs)).num + 1⟩, 0) := by
  have e1 : d.last n = some (r, (r :: rs).getLast (List.cons_ne_nil r rs)) := by
    unfold Dev.last
    rw [hs]
    exact if_pos hn
  unfold openW
  rw [if_pos hc, if_pos ⟨h0, h1⟩, e1]
  simp only [Dev.used, hs]
theorem openW_short {d : Dev} {n : Int} (hc : d.check = 0) (h0 : 0 ≤ n) (h1 : n ≤ 1000000000) {r : Rec} {rs : List Rec} (hs : scanL d.all = r :: rs) (hn : ¬ n - 1 ≤ ((r :: rs).getLast (List.cons_ne_nil r rs)).num) :
    openW d n = (⟨cutD d 0, n, n⟩, 0) := by
  have e1 : d.last n = none := by
    unfold Dev.last
    rw [hs]
    exact if_neg hn
  unfold openW
  rw [if_pos hc, if_pos ⟨h0, h1⟩, e1]
theorem openW_none {d : Dev} {n : Int} (hc : d.check = 0) (h0 : 0 ≤ n) (h1 : n ≤ 1000000000) (hs : scanL d.all = []) :
    openW d n = (⟨cutD d 0, n, n⟩, 0) := by
  have e1 : d.last n = none := by
    unfold Dev.last
    rw [hs]
  unfold openW
  rw [if_pos hc, if_pos ⟨h0, h1⟩, e1]
theorem s_wal_Open (d : Dev) (hd : d.small) (n : Int) (n0 : -9223372036854775808 ≤ n) (n1 : n ≤ 9223372036854775807) : Spec Try.prog 27 [.agg d.cells, .i .i64 n] [] (resV ((opW (openW d n)).map AV.ofT)) := by
  refine spec_k (hold mixed) b_wal_Open (opW (openW d n)) ?_
  have hc8 : d.check = 8 ∨ d.check = 0 := by unfold Dev.check; split <;> simp
  simp -implicitDefEqProofs only [go_sem, seval]
  refine call_k (s_disk_Check d hd) ?_
  rcases hc8 with hc | hc
  · have ev : openW d n = (zeroW, 8) := by simp [openW, hc]
    rw [ev]
    simp -implicitDefEqProofs only [go_sem, seval, sk, hc, opW, zeroW_cells]
  by_cases h0 : n < 0
  · have ev : openW d n = (zeroW, 2) := by simp [openW, hc]; omega
    rw [ev]
    simp -implicitDefEqProofs only [go_sem, seval, sk, hc, h0, opW, zeroW_cells]
  by_cases h1 : 1000000000 < n
  · have ev : openW d n = (zeroW, 2) := by simp [openW, hc]; omega
    rw [ev]
    simp -implicitDefEqProofs only [go_sem, seval, sk, hc, h0, h1, opW, zeroW_cells]
  have ev : ∀ (e : Dev), e.all = d.all → e.cap = d.cap → e.check = 0 → e.down = false → e.small → ∀ u : Nat, u ≤ e.all.length → (e.trunc (u : Int)).1.small ∧ ((e.trunc (u : Int)).1.sync).1 = cutD d u := fun e e1 e2 e3 e4 e5 u hu => by
    obtain ⟨g1, g2⟩ := open_dev e3 e4 hu
    exact ⟨g1, by rw [g2]; simp only [cutD, e1, e2]⟩
  cases hdn : d.down with
  | true =>
    have es : d.start = (⟨d.syn, [], d.cap, false⟩, 0) := by simp [Dev.start, hc, hdn]
    have hce : d.start.1.check = 0 := start_check (by rw [es])
    have hde : d.start.1.down = false := by rw [es]
    have hall : d.start.1.all = d.all := by
      have ht : d.tail = [] := by
        unfold Dev.check Dev.bad at hc
        simp [hdn] at hc
        exact hc.2.2.2
      rw [es]; simp [Dev.all, ht]
    have hcap : d.start.1.cap = d.cap := by rw [es]
    have hse := start_small d
    simp -implicitDefEqProofs only [go_sem, seval, sk, hc, h0, h1, hdn]
    refine call_k (s_disk_Start d hd) ?_ (by simp -implicitDefEqProofs only [go_sem, seval, hdn])
    generalize d.start = p at *
    obtain ⟨e, q⟩ := p
    simp -implicitDefEqProofs only [go_sem, seval, sk, opR]
    have hal : e.all.length ≤ 20000 := by
      have := e.ok_of hce
      simp only [Dev.all, List.length_append]
      omega
    refine call_k (s_wal_bytes e hse) ?_ (by simp -implicitDefEqProofs only [go_sem, seval, hde])
    simp -implicitDefEqProofs only [go_sem, seval, sk]
    refine call_k (s_frame_Scan_ok e.all hal) ?_ (by simp -implicitDefEqProofs only [go_sem, seval, bT_take_self])
    cases hs : scanL e.all with
    | nil =>
      have z0 : ((([] : List Rec).length : Nat) : Int) = 0 := rfl
      obtain ⟨g1, g2⟩ := ev e hall hcap hce hde hse 0 (Nat.zero_le _)
      rw [show ((0 : Nat) : Int) = 0 from rfl] at g1 g2
      rw [openW_none hc (by omega) (by omega) (by rw [← hall]; exact hs)]
      simp -implicitDefEqProofs only [go_sem, seval, sk, recsT_length, z0]
      refine call_k (s_disk_Truncate e 0 hse (by omega) (by omega)) ?_ (by simp -implicitDefEqProofs only [go_sem, seval, hde])
      simp -implicitDefEqProofs only [go_sem, seval, sk, opR]
      refine call_k (s_disk_Sync _ g1) ?_
      simp -implicitDefEqProofs only [go_sem, seval, sk, opR, g2, opW, cutD, List.take_zero]
    | cons r rs =>
      have hsm := bytes_count (scanL_ok e.all)
      rw [hs, List.length_cons] at hsm
      have hlast : (r :: rs).getLast (List.cons_ne_nil r rs) ∈ scanL e.all := by rw [hs]; exact List.getLast_mem _
      have hlr := recs_last r rs
      have hus := used_le e
      have hfl := fun (h : n - 1 ≤ ((r :: rs).getLast (List.cons_ne_nil r rs)).num) => openW_some hc (by omega) (by omega) (by rw [← hall]; exact hs) h
      have hfs := fun (h : ¬ n - 1 ≤ ((r :: rs).getLast (List.cons_ne_nil r rs)).num) => openW_short hc (by omega) (by omega) (by rw [← hall]; exact hs) h
      unfold Dev.used at hus
      rw [hs] at hus
      generalize (r :: rs).getLast (List.cons_ne_nil r rs) = la at hlast hlr hfl hfs
      obtain ⟨q0, q1⟩ := rec_num hlast
      have z1 : (((r :: rs).length : Nat) : Int) > 0 := by rw [List.length_cons]; omega
      have z2 : (0 < (((rs.length + 1 : Nat)) : Int)) = True := eq_true (by omega)
      have w1 : IntKind.i64.wrap ((((rs.length + 1 : Nat)) : Int) - 1) = ((rs.length : Nat) : Int) := by rw [wrap_i64_id (by omega) (by omega)]; omega
      have w2 : IntKind.i64.wrap (n - 1) = n - 1 := wrap_i64_id (by omega) (by omega)
      have w3 : IntKind.i64.wrap (la.num + 1) = la.num + 1 := wrap_i64_id (by omega) (by omega)
      have z3 : (recsT (r :: rs))[0]? = some r.cells := rfl
      rw [List.length_cons] at z1
      by_cases hn : n - 1 ≤ la.num
      · obtain ⟨g1, g2⟩ := ev e hall hcap hce hde hse (catR (r :: rs)).length hus
        rw [hfl hn]
        simp -implicitDefEqProofs only [go_sem, seval, sk, recsT_length, z1, z2, w1, w2, w3, z3, hlr, Rec.cells, hn]
        refine call_k (s_disk_Truncate e (((catR (r :: rs)).length : Nat) : Int) hse (by omega) (by omega)) ?_ (by simp -implicitDefEqProofs only [go_sem, seval, hde])
        simp -implicitDefEqProofs only [go_sem, seval, sk, opR]
        refine call_k (s_disk_Sync _ g1) ?_
        simp -implicitDefEqProofs only [go_sem, seval, sk, opR, g2, opW, cutD]
      · obtain ⟨g1, g2⟩ := ev e hall hcap hce hde hse 0 (Nat.zero_le _)
        rw [show ((0 : Nat) : Int) = 0 from rfl] at g1 g2
        rw [hfs hn]
        simp -implicitDefEqProofs only [go_sem, seval, sk, recsT_length, z1, z2, w1, w2, w3, z3, hlr, Rec.cells, hn]
        refine call_k (s_disk_Truncate e 0 hse (by omega) (by omega)) ?_ (by simp -implicitDefEqProofs only [go_sem, seval, hde])
        simp -implicitDefEqProofs only [go_sem, seval, sk, opR]
        refine call_k (s_disk_Sync _ g1) ?_
        simp -implicitDefEqProofs only [go_sem, seval, sk, opR, g2, opW, cutD, List.take_zero]
  | false =>
    have hall : d.all = d.all := rfl
    have hcap : d.cap = d.cap := rfl
    simp -implicitDefEqProofs only [go_sem, seval, sk, hc, h0, h1, hdn]
    have hal : d.all.length ≤ 20000 := by
      have := d.ok_of hc
      simp only [Dev.all, List.length_append]
      omega
    refine call_k (s_wal_bytes d hd) ?_ (by simp -implicitDefEqProofs only [go_sem, seval, hdn])
    simp -implicitDefEqProofs only [go_sem, seval, sk]
    refine call_k (s_frame_Scan_ok d.all hal) ?_ (by simp -implicitDefEqProofs only [go_sem, seval, bT_take_self])
    cases hs : scanL d.all with
    | nil =>
      have z0 : ((([] : List Rec).length : Nat) : Int) = 0 := rfl
      obtain ⟨g1, g2⟩ := ev d hall hcap hc hdn hd 0 (Nat.zero_le _)
      rw [show ((0 : Nat) : Int) = 0 from rfl] at g1 g2
      rw [openW_none hc (by omega) (by omega) (by rw [← hall]; exact hs)]
      simp -implicitDefEqProofs only [go_sem, seval, sk, recsT_length, z0]
      refine call_k (s_disk_Truncate d 0 hd (by omega) (by omega)) ?_ (by simp -implicitDefEqProofs only [go_sem, seval, hdn])
      simp -implicitDefEqProofs only [go_sem, seval, sk, opR]
      refine call_k (s_disk_Sync _ g1) ?_
      simp -implicitDefEqProofs only [go_sem, seval, sk, opR, g2, opW, cutD, List.take_zero]
    | cons r rs =>
      have hsm := bytes_count (scanL_ok d.all)
      rw [hs, List.length_cons] at hsm
      have hlast : (r :: rs).getLast (List.cons_ne_nil r rs) ∈ scanL d.all := by rw [hs]; exact List.getLast_mem _
      have hlr := recs_last r rs
      have hus := used_le d
      have hfl := fun (h : n - 1 ≤ ((r :: rs).getLast (List.cons_ne_nil r rs)).num) => openW_some hc (by omega) (by omega) (by rw [← hall]; exact hs) h
      have hfs := fun (h : ¬ n - 1 ≤ ((r :: rs).getLast (List.cons_ne_nil r rs)).num) => openW_short hc (by omega) (by omega) (by rw [← hall]; exact hs) h
      unfold Dev.used at hus
      rw [hs] at hus
      generalize (r :: rs).getLast (List.cons_ne_nil r rs) = la at hlast hlr hfl hfs
      obtain ⟨q0, q1⟩ := rec_num hlast
      have z1 : (((r :: rs).length : Nat) : Int) > 0 := by rw [List.length_cons]; omega
      have z2 : (0 < (((rs.length + 1 : Nat)) : Int)) = True := eq_true (by omega)
      have w1 : IntKind.i64.wrap ((((rs.length + 1 : Nat)) : Int) - 1) = ((rs.length : Nat) : Int) := by rw [wrap_i64_id (by omega) (by omega)]; omega
      have w2 : IntKind.i64.wrap (n - 1) = n - 1 := wrap_i64_id (by omega) (by omega)
      have w3 : IntKind.i64.wrap (la.num + 1) = la.num + 1 := wrap_i64_id (by omega) (by omega)
      have z3 : (recsT (r :: rs))[0]? = some r.cells := rfl
      rw [List.length_cons] at z1
      by_cases hn : n - 1 ≤ la.num
      · obtain ⟨g1, g2⟩ := ev d hall hcap hc hdn hd (catR (r :: rs)).length hus
        rw [hfl hn]
        simp -implicitDefEqProofs only [go_sem, seval, sk, recsT_length, z1, z2, w1, w2, w3, z3, hlr, Rec.cells, hn]
        refine call_k (s_disk_Truncate d (((catR (r :: rs)).length : Nat) : Int) hd (by omega) (by omega)) ?_ (by simp -implicitDefEqProofs only [go_sem, seval, hdn])
        simp -implicitDefEqProofs only [go_sem, seval, sk, opR]
        refine call_k (s_disk_Sync _ g1) ?_
        simp -implicitDefEqProofs only [go_sem, seval, sk, opR, g2, opW, cutD]
      · obtain ⟨g1, g2⟩ := ev d hall hcap hc hdn hd 0 (Nat.zero_le _)
        rw [show ((0 : Nat) : Int) = 0 from rfl] at g1 g2
        rw [hfs hn]
        simp -implicitDefEqProofs only [go_sem, seval, sk, recsT_length, z1, z2, w1, w2, w3, z3, hlr, Rec.cells, hn]
        refine call_k (s_disk_Truncate d 0 hd (by omega) (by omega)) ?_ (by simp -implicitDefEqProofs only [go_sem, seval, hdn])
        simp -implicitDefEqProofs only [go_sem, seval, sk, opR]
        refine call_k (s_disk_Sync _ g1) ?_
        simp -implicitDefEqProofs only [go_sem, seval, sk, opR, g2, opW, cutD, List.take_zero]
def WLog.app (l : WLog) (b : List (BitVec 8)) : WLog × Int × Int := if l.ok then (if b.length ≤ 1000 then (if l.next ≤ 1000000000 then
  (if (l.dev.app (bytesL ⟨l.next, b⟩)).2 = 0 then (⟨(l.dev.app (bytesL ⟨l.next, b⟩)).1, l.first, l.next + 1⟩, l.next, 0) else (zeroW, 0, (l.dev.app (bytesL ⟨l.next, b⟩)).2)) else (zeroW, 0, 2)) else (zeroW, 0, 4)) else (zeroW, 0, 8)
def opW3 (p : WLog × Int × Int) : List (T × Bool) := [(.agg p.1.cells, true), (.i .i64 p.2.1, true), (.i .i64 p.2.2, true)]
theorem s_wal_Append (l : WLog) (hl : l.fine) (b : List (BitVec 8)) (hb : b.length ≤ 100000) : Spec Try.prog 37 [.agg l.cells, .sl (bT b)] [] (resV ((opW3 (l.app b)).map AV.ofT)) := by
  refine spec_k (hold mixed) b_wal_Append (opW3 (l.app b)) ?_
  by_cases h : l.ok
  · obtain ⟨b0, b1, b2⟩ := ok_bounds h
    have hnx := h.2.2.2.1
    simp -implicitDefEqProofs only [go_sem, seval, sk]
    refine call_k (s_wal_look_ok l hl h) ?_
    by_cases c0 : (1000 : Int) < b.length
    · have ev : l.app b = (zeroW, 0, 4) := by
        have : ¬ b.length ≤ 1000 := by omega
        simp [WLog.app, h, this]
      rw [ev]
      simp -implicitDefEqProofs only [go_sem, seval, sk, viewV, c0, opW3, zeroW_cells]
    by_cases c1 : 1000000000 < l.next
    · have ev : l.app b = (zeroW, 0, 2) := by
        have h1 : b.length ≤ 1000 := by omega
        have h2 : ¬ l.next ≤ 1000000000 := by omega
        simp [WLog.app, h, h1, h2]
      rw [ev]
      simp -implicitDefEqProofs only [go_sem, seval, sk, viewV, c0, c1, opW3, zeroW_cells]
    have hrk : (Rec.mk l.next b).ok = true := (Rec.ok_iff _).2 ⟨by show 0 ≤ l.next; omega, by show l.next ≤ _; omega, by show b.length ≤ _; omega⟩
    have hbl : (bytesL ⟨l.next, b⟩).length ≤ 100000 := by rw [bytesL_length]; show 12 + b.length ≤ _; omega
    have ev : l.app b = if (l.dev.app (bytesL ⟨l.next, b⟩)).2 = 0 then (⟨(l.dev.app (bytesL ⟨l.next, b⟩)).1, l.first, l.next + 1⟩, l.next, 0) else (zeroW, 0, (l.dev.app (bytesL ⟨l.next, b⟩)).2) := by
      have h1 : b.length ≤ 1000 := by omega
      have h2 : l.next ≤ 1000000000 := by omega
      simp [WLog.app, h, h1, h2]
    have w1 : IntKind.i64.wrap (l.next + 1) = l.next + 1 := wrap_i64_id (by omega) (by omega)
    rw [ev]
    simp -implicitDefEqProofs only [go_sem, seval, sk, viewV, c0, c1]
    refine call_k (s_frame_Encode_ok ⟨l.next, b⟩ hrk) ?_ (by simp -implicitDefEqProofs only [go_sem, seval, Rec.cells])
    simp -implicitDefEqProofs only [go_sem, seval, sk]
    refine call_k (s_disk_Append l.dev (bytesL ⟨l.next, b⟩) hl.1 hbl) ?_ (by simp -implicitDefEqProofs only [go_sem, seval, bT_take_self]) (by simp -implicitDefEqProofs only [go_sem, seval, opR])
    generalize l.dev.app (bytesL ⟨l.next, b⟩) = p
    by_cases hp : p.2 = 0
    · have hp' : (p.2 != 0) = false := by simp [hp]
      rw [if_pos hp]
      simp -implicitDefEqProofs only [go_sem, seval, sk, opR, hp', w1]
      refine call_xd x_wal_with ?_
      simp -implicitDefEqProofs only [go_sem, seval, sk, opW3]
    · have hp' : (p.2 != 0) = true := by simp [hp]
      rw [if_neg hp]
      simp -implicitDefEqProofs only [go_sem, seval, sk, opR, hp', opW3, zeroW_cells]
  · have ev : l.app b = (zeroW, 0, 8) := by simp [WLog.app, h]
    rw [ev]
    simp -implicitDefEqProofs only [go_sem, seval, sk]
    refine call_k (s_wal_look_bad l hl h) ?_
    simp -implicitDefEqProofs only [go_sem, seval, sk, zeroV, opW3, zeroW_cells]
end Go.Proofs.Ytlfpafdkegnkoaa.Pm
