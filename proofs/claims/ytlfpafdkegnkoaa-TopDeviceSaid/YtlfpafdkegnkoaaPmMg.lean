/- Texts of this proof in one file: PmKg, PmGa, PmGb, PmGc, PmGd, PmGe, PmGs. No law of Go's is stated here. -/
import Derived.Test.YtlfpafdkegnkoaaPmMd
set_option linter.all false
set_option maxRecDepth 100000
namespace Go.Proofs.Ytlfpafdkegnkoaa.Pm
open Go Go.RowKit
def c_disk_Run : C := (.seq (.seq (.reg ([⟨some 2, .box 26 (.tmp 0), none⟩, ⟨some 4, .alloc 26, none⟩, ⟨some 5, .assign (.const (.int .i64 0)), none⟩, ⟨some 6, .assign (.const (.int .i64 0)), none⟩])) (.keep [1, 2, 4])) (.seq (.seq (.seq (.reg ([⟨some 13, .load 26 (.tmp 2), none⟩, ⟨some 14, .call { callee := .value (.func 39), args := #[(.tmp 13)], argTypes := #[26] }, none⟩, ⟨some 7, .assign (.tmp 14), none⟩])) (.keep [1, 2, 4, 7])) (.seq (.seq (.reg ([⟨some 15, .move (.tmp 7), none⟩, ⟨some 16, .binOp .neq 35 (.tmp 15) (.const (.int .i64 0)) 35, none⟩])) (.keep [1, 2, 4, 7, 16])) (.cond (.tmp 16) (.seq (.seq (.reg ([⟨some 17, .build 26 #[], none⟩, ⟨some 18, .move (.tmp 7), none⟩, ⟨none, .store 26 (.tmp 4) (.tmp 17), none⟩, ⟨some 5, .assign (.const (.int .i64 0)), none⟩, ⟨some 6, .assign (.tmp 18), none⟩])) (.keep [4, 5, 6])) .ret) .skip))) (.seq (.seq (.seq (.reg ([⟨some 19, .move (.tmp 1), none⟩, ⟨some 20, .call { callee := .builtin .len, args := #[(.tmp 19)], argTypes := #[38] }, none⟩, ⟨some 21, .binOp .gtr 3 (.tmp 20) (.const (.int .i64 200)) 3, none⟩])) (.keep [1, 2, 4, 21])) (.cond (.tmp 21) (.seq (.seq (.reg ([⟨some 22, .build 26 #[], none⟩, ⟨none, .store 26 (.tmp 4) (.tmp 22), none⟩, ⟨some 5, .assign (.const (.int .i64 0)), none⟩, ⟨some 6, .assign (.const (.int .i64 4)), none⟩])) (.keep [4, 5, 6])) .ret) .skip)) (.seq (.seq (.reg ([⟨some 23, .load 26 (.tmp 2), none⟩, ⟨some 24, .fieldAddr 26 (.tmp 2) 0, none⟩, ⟨some 25, .load 24 (.tmp 24), none⟩, ⟨some 26, .fieldAddr 26 (.tmp 2) 1, none⟩, ⟨some 27, .load 24 (.tmp 26), none⟩, ⟨some 28, .call { callee := .value (.func 40), args := #[(.tmp 23), (.tmp 25), (.tmp 27)], argTypes := #[26, 24, 24] }, none⟩, ⟨some 8, .alloc 26, none⟩, ⟨none, .store 26 (.tmp 8) (.tmp 28), none⟩])) (.keep [1, 2, 4, 8])) (.seq (.seq (.reg ([⟨some 29, .fieldAddr 26 (.tmp 2) 3, none⟩, ⟨some 30, .load 4 (.tmp 29), none⟩, ⟨some 31, .fieldAddr 26 (.tmp 8) 3, none⟩, ⟨none, .store 4 (.tmp 31) (.tmp 30), none⟩])) (.keep [1, 4, 8])) (.seq (.seq (.seq (.reg ([⟨some 32, .move (.tmp 1), none⟩, ⟨some 33, .call { callee := .builtin .len, args := #[(.tmp 32)], argTypes := #[38] }, none⟩, ⟨some 34, .move (.const (.int .i64 0)), none⟩])) (.keep [1, 4, 8, 32, 33, 34])) (.block 0 (.loop [] [1, 4, 8, 32, 33, 34] (.seq (.seq (.reg ([⟨some 35, .binOp .lss 3 (.tmp 34) (.tmp 33) 3, none⟩])) (.keep [1, 4, 8, 32, 33, 34, 35])) (.seq (.cond (.tmp 35) .skip (.exit 0)) (.seq (.block 1 (.seq (.seq (.reg ([⟨some 36, .move (.tmp 34), none⟩, ⟨some 37, .indexAddr 38 (.tmp 32) (.tmp 34), none⟩, ⟨some 38, .load 43 (.tmp 37), none⟩, ⟨some 10, .alloc 43, none⟩, ⟨some 9, .assign (.tmp 36), none⟩, ⟨none, .store 43 (.tmp 10) (.tmp 38), none⟩])) (.keep [1, 4, 8, 9, 10, 32, 33, 34])) (.seq (.seq (.reg ([⟨some 40, .load 26 (.tmp 8), none⟩, ⟨some 41, .load 43 (.tmp 10), none⟩, ⟨some 42, .call { callee := .value (.func 41), args := #[(.tmp 40), (.tmp 41)], argTypes := #[26, 43] }, none⟩, ⟨some 39, .move (.tmp 42), none⟩, ⟨some 43, .extract (.tmp 39) 0, none⟩, ⟨some 44, .extract (.tmp 39) 1, none⟩, ⟨some 11, .alloc 26, none⟩, ⟨none, .store 26 (.tmp 11) (.tmp 43), none⟩, ⟨some 12, .assign (.tmp 44), none⟩])) (.keep [1, 4, 8, 9, 11, 12, 32, 33, 34])) (.seq (.seq (.seq (.reg ([⟨some 45, .move (.tmp 12), none⟩, ⟨some 46, .binOp .neq 35 (.tmp 45) (.const (.int .i64 0)) 35, none⟩])) (.keep [1, 4, 8, 9, 11, 12, 32, 33, 34, 46])) (.cond (.tmp 46) (.seq (.seq (.reg ([⟨some 47, .load 26 (.tmp 8), none⟩, ⟨some 48, .move (.tmp 9), none⟩, ⟨some 49, .move (.tmp 12), none⟩, ⟨none, .store 26 (.tmp 4) (.tmp 47), none⟩, ⟨some 5, .assign (.tmp 48), none⟩, ⟨some 6, .assign (.tmp 49), none⟩])) (.keep [4, 5, 6])) .ret) .skip)) (.seq (.reg ([⟨some 50, .load 26 (.tmp 11), none⟩, ⟨none, .store 26 (.tmp 8) (.tmp 50), none⟩])) (.keep [1, 4, 8, 32, 33, 34])))))) (.seq (.reg ([⟨some 51, .binOp .add 3 (.tmp 34) (.const (.int .i64 1)) 3, none⟩, ⟨some 34, .move (.tmp 51), none⟩])) (.keep [1, 4, 8, 32, 33, 34])))))))) (.seq (.seq (.reg ([⟨some 52, .load 26 (.tmp 8), none⟩, ⟨some 53, .move (.tmp 1), none⟩, ⟨some 54, .call { callee := .builtin .len, args := #[(.tmp 53)], argTypes := #[38] }, none⟩, ⟨none, .store 26 (.tmp 4) (.tmp 52), none⟩, ⟨some 5, .assign (.tmp 54), none⟩, ⟨some 6, .assign (.const (.int .i64 0)), none⟩])) (.keep [4, 5, 6])) .ret)))))))
attribute [go_sem ↓] c_disk_Run
def h_disk_Run : List Hint := [⟨[], [1, 2, 4], []⟩, ⟨[], [1, 2, 4, 7], []⟩, ⟨[], [1, 2, 4, 7, 16], []⟩, ⟨[], [4, 5, 6], []⟩, ⟨[], [1, 2, 4, 21], []⟩, ⟨[], [4, 5, 6], []⟩, ⟨[], [1, 2, 4, 8], []⟩, ⟨[], [1, 4, 8], []⟩, ⟨[], [1, 4, 8, 32, 33, 34], []⟩, ⟨[], [1, 4, 8, 32, 33, 34], []⟩, ⟨[], [1, 4, 8, 32, 33, 34, 35], []⟩, ⟨[], [1, 4, 8, 9, 10, 32, 33, 34], []⟩, ⟨[], [1, 4, 8, 9, 11, 12, 32, 33, 34], []⟩, ⟨[], [1, 4, 8, 9, 11, 12, 32, 33, 34, 46], []⟩, ⟨[], [4, 5, 6], []⟩, ⟨[], [1, 4, 8, 32, 33, 34], []⟩, ⟨[], [1, 4, 8, 32, 33, 34], []⟩, ⟨[], [4, 5, 6], []⟩]
theorem b_disk_Run : Body Try.prog 14 [] h_disk_Run c_disk_Run 55 [.cell 4 26, .tmp 5, .tmp 6] := body_of Try.func14 (by kernel_rfl) (by kernel_rfl) (by kernel_rfl) (by kernel_rfl)
def c_ref01_Same : C := (.seq (.seq (.reg ([⟨some 2, .box 26 (.tmp 0), none⟩, ⟨some 3, .box 26 (.tmp 1), none⟩, ⟨some 4, .assign (.const (.bool false)), none⟩])) (.keep [2, 3])) (.seq (.seq (.reg ([⟨some 5, .fieldAddr 26 (.tmp 2) 2, none⟩, ⟨some 6, .load 3 (.tmp 5), none⟩, ⟨some 7, .fieldAddr 26 (.tmp 3) 2, none⟩, ⟨some 8, .load 3 (.tmp 7), none⟩, ⟨some 9, .binOp .eql 3 (.tmp 6) (.tmp 8) 3, none⟩, ⟨some 10, .move (.tmp 9), none⟩, ⟨some 11, .fieldAddr 26 (.tmp 2) 3, some (10, true)⟩, ⟨some 12, .load 4 (.tmp 11), some (10, true)⟩, ⟨some 13, .fieldAddr 26 (.tmp 3) 3, some (10, true)⟩, ⟨some 14, .load 4 (.tmp 13), some (10, true)⟩, ⟨some 15, .binOp .eql 4 (.tmp 12) (.tmp 14) 4, some (10, true)⟩, ⟨some 16, .pick (.tmp 10) (.tmp 15) (.const (.bool false)), none⟩, ⟨some 17, .move (.tmp 16), none⟩, ⟨some 18, .fieldAddr 26 (.tmp 2) 0, some (17, true)⟩, ⟨some 19, .load 24 (.tmp 18), some (17, true)⟩, ⟨some 20, .fieldAddr 26 (.tmp 3) 0, some (17, true)⟩, ⟨some 21, .load 24 (.tmp 20), some (17, true)⟩, ⟨some 22, .call { callee := .value (.func 42), args := #[(.tmp 19), (.tmp 21)], argTypes := #[24, 24] }, some (17, true)⟩, ⟨some 23, .pick (.tmp 17) (.tmp 22) (.const (.bool false)), none⟩, ⟨some 24, .move (.tmp 23), none⟩, ⟨some 25, .fieldAddr 26 (.tmp 2) 1, some (24, true)⟩, ⟨some 26, .load 24 (.tmp 25), some (24, true)⟩, ⟨some 27, .fieldAddr 26 (.tmp 3) 1, some (24, true)⟩, ⟨some 28, .load 24 (.tmp 27), some (24, true)⟩, ⟨some 29, .call { callee := .value (.func 42), args := #[(.tmp 26), (.tmp 28)], argTypes := #[24, 24] }, some (24, true)⟩, ⟨some 30, .pick (.tmp 24) (.tmp 29) (.const (.bool false)), none⟩, ⟨some 4, .assign (.tmp 30), none⟩])) (.keep [4])) .ret))
attribute [go_sem ↓] c_ref01_Same
def h_ref01_Same : List Hint := [⟨[], [2, 3], []⟩, ⟨[], [4], []⟩]
theorem b_ref01_Same : Body Try.prog 15 [] h_ref01_Same c_ref01_Same 31 [.tmp 4] := body_of Try.func15 (by kernel_rfl) (by kernel_rfl) (by kernel_rfl) (by kernel_rfl)
def c_disk_New : C := (.seq (.seq (.reg ([⟨some 2, .alloc 26, none⟩, ⟨some 3, .assign (.const (.int .i64 0)), none⟩])) (.keep [0, 2])) (.seq (.seq (.seq (.reg ([⟨some 4, .move (.tmp 0), none⟩, ⟨some 5, .binOp .lss 3 (.tmp 4) (.const (.int .i64 0)) 3, none⟩, ⟨some 6, .move (.tmp 5), none⟩, ⟨some 7, .move (.tmp 0), some (6, false)⟩, ⟨some 8, .binOp .gtr 3 (.tmp 7) (.const (.int .i64 20000)) 3, some (6, false)⟩, ⟨some 9, .pick (.tmp 6) (.const (.bool true)) (.tmp 8), none⟩])) (.keep [0, 2, 9])) (.cond (.tmp 9) (.seq (.seq (.reg ([⟨some 10, .build 26 #[], none⟩, ⟨none, .store 26 (.tmp 2) (.tmp 10), none⟩, ⟨some 3, .assign (.const (.int .i64 2)), none⟩])) (.keep [2, 3])) .ret) .skip)) (.seq (.seq (.reg ([⟨some 11, .move (.tmp 0), none⟩, ⟨some 12, .build 26 #[(2, (.tmp 11))], none⟩, ⟨none, .store 26 (.tmp 2) (.tmp 12), none⟩, ⟨some 3, .assign (.const (.int .i64 0)), none⟩])) (.keep [2, 3])) .ret)))
attribute [go_sem ↓] c_disk_New
def h_disk_New : List Hint := [⟨[], [0, 2], []⟩, ⟨[], [0, 2, 9], []⟩, ⟨[], [2, 3], []⟩, ⟨[], [2, 3], []⟩]
theorem b_disk_New : Body Try.prog 26 [] h_disk_New c_disk_New 13 [.cell 2 26, .tmp 3] := body_of Try.func26 (by kernel_rfl) (by kernel_rfl) (by kernel_rfl) (by kernel_rfl)
def c_disk_Check : C := (.seq (.seq (.reg ([⟨some 1, .box 26 (.tmp 0), none⟩, ⟨some 2, .assign (.const (.int .i64 0)), none⟩])) (.keep [1])) (.seq (.seq (.seq (.reg ([⟨some 3, .fieldAddr 26 (.tmp 1) 2, none⟩, ⟨some 4, .load 3 (.tmp 3), none⟩, ⟨some 5, .binOp .lss 3 (.tmp 4) (.const (.int .i64 0)) 3, none⟩, ⟨some 6, .move (.tmp 5), none⟩, ⟨some 7, .fieldAddr 26 (.tmp 1) 2, some (6, false)⟩, ⟨some 8, .load 3 (.tmp 7), some (6, false)⟩, ⟨some 9, .binOp .gtr 3 (.tmp 8) (.const (.int .i64 20000)) 3, some (6, false)⟩, ⟨some 10, .pick (.tmp 6) (.const (.bool true)) (.tmp 9), none⟩, ⟨some 11, .move (.tmp 10), none⟩, ⟨some 12, .fieldAddr 26 (.tmp 1) 0, some (11, false)⟩, ⟨some 13, .load 24 (.tmp 12), some (11, false)⟩, ⟨some 14, .call { callee := .builtin .len, args := #[(.tmp 13)], argTypes := #[24] }, some (11, false)⟩, ⟨some 15, .fieldAddr 26 (.tmp 1) 1, some (11, false)⟩, ⟨some 16, .load 24 (.tmp 15), some (11, false)⟩, ⟨some 17, .call { callee := .builtin .len, args := #[(.tmp 16)], argTypes := #[24] }, some (11, false)⟩, ⟨some 18, .binOp .add 3 (.tmp 14) (.tmp 17) 3, some (11, false)⟩, ⟨some 19, .fieldAddr 26 (.tmp 1) 2, some (11, false)⟩, ⟨some 20, .load 3 (.tmp 19), some (11, false)⟩, ⟨some 21, .binOp .gtr 3 (.tmp 18) (.tmp 20) 3, some (11, false)⟩, ⟨some 22, .pick (.tmp 11) (.const (.bool true)) (.tmp 21), none⟩, ⟨some 23, .move (.tmp 22), none⟩, ⟨some 24, .fieldAddr 26 (.tmp 1) 3, some (23, false)⟩, ⟨some 25, .load 4 (.tmp 24), some (23, false)⟩, ⟨some 26, .move (.tmp 25), some (23, false)⟩, ⟨some 27, .fieldAddr 26 (.tmp 1) 1, some (26, true)⟩, ⟨some 28, .load 24 (.tmp 27), some (26, true)⟩, ⟨some 29, .call { callee := .builtin .len, args := #[(.tmp 28)], argTypes := #[24] }, some (26, true)⟩, ⟨some 30, .binOp .gtr 3 (.tmp 29) (.const (.int .i64 0)) 3, some (26, true)⟩, ⟨some 31, .pick (.tmp 26) (.tmp 30) (.const (.bool false)), some (23, false)⟩, ⟨some 32, .pick (.tmp 23) (.const (.bool true)) (.tmp 31), none⟩])) (.keep [32])) (.cond (.tmp 32) (.seq (.seq (.reg ([⟨some 2, .assign (.const (.int .i64 8)), none⟩])) (.keep [2])) .ret) .skip)) (.seq (.seq (.reg ([⟨some 2, .assign (.const (.int .i64 0)), none⟩])) (.keep [2])) .ret)))
attribute [go_sem ↓] c_disk_Check
def h_disk_Check : List Hint := [⟨[], [1], []⟩, ⟨[], [32], []⟩, ⟨[], [2], []⟩, ⟨[], [2], []⟩]
theorem b_disk_Check : Body Try.prog 39 [] h_disk_Check c_disk_Check 33 [.tmp 2] := body_of Try.func39 (by kernel_rfl) (by kernel_rfl) (by kernel_rfl) (by kernel_rfl)
def c_disk_made : C := (.seq (.seq (.reg ([⟨some 3, .box 26 (.tmp 0), none⟩, ⟨some 6, .alloc 26, none⟩])) (.keep [1, 2, 3, 6])) (.seq (.seq (.draw ([⟨⟨some 7, .move (.tmp 1), none⟩, []⟩, ⟨⟨some 8, .call { callee := .value (.func 65), args := #[(.tmp 7)], argTypes := #[24] }, none⟩, []⟩, ⟨⟨some 9, .move (.tmp 2), none⟩, [0, 1]⟩, ⟨⟨some 10, .call { callee := .value (.func 65), args := #[(.tmp 9)], argTypes := #[24] }, none⟩, []⟩, ⟨⟨some 11, .fieldAddr 26 (.tmp 3) 2, none⟩, [0, 1, 2, 3]⟩, ⟨⟨some 12, .load 3 (.tmp 11), none⟩, [0, 1, 2, 3]⟩, ⟨⟨some 13, .build 26 #[(0, (.tmp 8)), (1, (.tmp 10)), (2, (.tmp 12))], none⟩, []⟩, ⟨⟨none, .store 26 (.tmp 6) (.tmp 13), none⟩, []⟩])) (.keep [6])) .ret))
attribute [go_sem ↓] c_disk_made
def h_disk_made : List Hint := [⟨[], [1, 2, 3, 6], []⟩, ⟨[], [6], []⟩]
theorem b_disk_made : Body Try.prog 40 [] h_disk_made c_disk_made 14 [.cell 6 26] := body_of Try.func40 (by kernel_rfl) (by kernel_rfl) (by kernel_rfl) (by kernel_rfl)
def kc200 : C := (.seq (.seq (.reg ([⟨some 15, .build 26 #[], none⟩, ⟨none, .store 26 (.tmp 4) (.tmp 15), none⟩, ⟨some 5, .assign (.const (.int .i64 2)), none⟩])) (.keep [4, 5])) .ret)
@[go_sem ↓] def uq258 := @unC _ _ kc200.eq_1
def kc201 : C := (.cond (.tmp 14) kc200 .skip)
@[go_sem ↓] def uq259 := @unC _ _ kc201.eq_1
def r_disk_step_2 : List I := [⟨some 24, .extract (.tmp 23) 0, none⟩, ⟨some 25, .extract (.tmp 23) 1, none⟩, ⟨none, .store 26 (.tmp 4) (.tmp 24), none⟩, ⟨some 5, .assign (.tmp 25), none⟩]
@[go_sem ↓] def uq260 := @unI _ _ r_disk_step_2.eq_1
def kc202 : C := (.seq (.seq (.reg (⟨some 20, .load 26 (.tmp 2), none⟩ :: ⟨some 21, .fieldAddr 43 (.tmp 3) 2, none⟩ :: ⟨some 22, .load 3 (.tmp 21), none⟩ :: ⟨some 23, .call { callee := .value (.func 61), args := #[(.tmp 20), (.tmp 22)], argTypes := #[26, 3] }, none⟩ :: r_disk_step_2)) (.keep [4, 5])) .ret)
@[go_sem ↓] def uq261 := @unC _ _ kc202.eq_1
def r_disk_step_4 : List I := [⟨some 32, .extract (.tmp 31) 0, none⟩, ⟨some 33, .extract (.tmp 31) 1, none⟩, ⟨none, .store 26 (.tmp 4) (.tmp 32), none⟩, ⟨some 5, .assign (.tmp 33), none⟩]
@[go_sem ↓] def uq262 := @unI _ _ r_disk_step_4.eq_1
def kc203 : C := (.seq (.seq (.reg (⟨some 28, .load 26 (.tmp 2), none⟩ :: ⟨some 29, .fieldAddr 43 (.tmp 3) 2, none⟩ :: ⟨some 30, .load 3 (.tmp 29), none⟩ :: ⟨some 31, .call { callee := .value (.func 69), args := #[(.tmp 28), (.tmp 30)], argTypes := #[26, 3] }, none⟩ :: r_disk_step_4)) (.keep [4, 5])) .ret)
@[go_sem ↓] def uq263 := @unC _ _ kc203.eq_1
def r_disk_step_6 : List I := [⟨some 40, .extract (.tmp 39) 0, none⟩, ⟨some 41, .extract (.tmp 39) 1, none⟩, ⟨none, .store 26 (.tmp 4) (.tmp 40), none⟩, ⟨some 5, .assign (.tmp 41), none⟩]
@[go_sem ↓] def uq264 := @unI _ _ r_disk_step_6.eq_1
def kc204 : C := (.seq (.seq (.reg (⟨some 36, .load 26 (.tmp 2), none⟩ :: ⟨some 37, .fieldAddr 43 (.tmp 3) 2, none⟩ :: ⟨some 38, .load 3 (.tmp 37), none⟩ :: ⟨some 39, .call { callee := .value (.func 52), args := #[(.tmp 36), (.tmp 38)], argTypes := #[26, 3] }, none⟩ :: r_disk_step_6)) (.keep [4, 5])) .ret)
@[go_sem ↓] def uq265 := @unC _ _ kc204.eq_1
def kc205 : C := (.cond (.tmp 34) kc204 .skip)
@[go_sem ↓] def uq266 := @unC _ _ kc205.eq_1
def kc206 : C := (.seq (.seq (.reg ([⟨some 35, .binOp .eql 5 (.tmp 17) (.const (.int .u8 5)) 5, none⟩, ⟨some 34, .assign (.tmp 35), none⟩])) (.keep [2, 3, 4, 34])) kc205)
@[go_sem ↓] def uq267 := @unC _ _ kc206.eq_1
def kc207 : C := (.cond (.tmp 26) kc203 kc206)
@[go_sem ↓] def uq268 := @unC _ _ kc207.eq_1
def kc208 : C := (.seq (.seq (.reg ([⟨some 27, .binOp .eql 5 (.tmp 17) (.const (.int .u8 4)) 5, none⟩, ⟨some 26, .assign (.tmp 27), none⟩])) (.keep [2, 3, 4, 17, 26])) kc207)
@[go_sem ↓] def uq269 := @unC _ _ kc208.eq_1
def kc209 : C := (.cond (.tmp 18) kc202 kc208)
@[go_sem ↓] def uq270 := @unC _ _ kc209.eq_1
def kc210 : C := (.block 0 (.seq (.seq (.reg ([⟨some 19, .binOp .eql 5 (.tmp 17) (.const (.int .u8 3)) 5, none⟩, ⟨some 18, .assign (.tmp 19), none⟩])) (.keep [2, 3, 4, 17, 18])) kc209))
@[go_sem ↓] def uq271 := @unC _ _ kc210.eq_1
def kc211 : C := (.seq (.seq (.reg ([⟨some 45, .build 26 #[], none⟩, ⟨none, .store 26 (.tmp 4) (.tmp 45), none⟩, ⟨some 5, .assign (.const (.int .i64 2)), none⟩])) (.keep [4, 5])) .ret)
@[go_sem ↓] def uq272 := @unC _ _ kc211.eq_1
def kc212 : C := (.cond (.tmp 44) kc211 .skip)
@[go_sem ↓] def uq273 := @unC _ _ kc212.eq_1
def r_disk_step_16 : List I := [⟨some 54, .extract (.tmp 53) 0, none⟩, ⟨some 55, .extract (.tmp 53) 1, none⟩, ⟨none, .store 26 (.tmp 4) (.tmp 54), none⟩, ⟨some 5, .assign (.tmp 55), none⟩]
@[go_sem ↓] def uq274 := @unI _ _ r_disk_step_16.eq_1
def kc213 : C := (.seq (.seq (.reg (⟨some 50, .load 26 (.tmp 2), none⟩ :: ⟨some 51, .fieldAddr 43 (.tmp 3) 1, none⟩ :: ⟨some 52, .load 24 (.tmp 51), none⟩ :: ⟨some 53, .call { callee := .value (.func 75), args := #[(.tmp 50), (.tmp 52)], argTypes := #[26, 24] }, none⟩ :: r_disk_step_16)) (.keep [4, 5])) .ret)
@[go_sem ↓] def uq275 := @unC _ _ kc213.eq_1
def r_disk_step_18 : List I := [⟨some 60, .extract (.tmp 59) 0, none⟩, ⟨some 61, .extract (.tmp 59) 1, none⟩, ⟨none, .store 26 (.tmp 4) (.tmp 60), none⟩, ⟨some 5, .assign (.tmp 61), none⟩]
@[go_sem ↓] def uq276 := @unI _ _ r_disk_step_18.eq_1
def kc214 : C := (.seq (.seq (.reg (⟨some 58, .load 26 (.tmp 2), none⟩ :: ⟨some 59, .call { callee := .value (.func 62), args := #[(.tmp 58)], argTypes := #[26] }, none⟩ :: r_disk_step_18)) (.keep [4, 5])) .ret)
@[go_sem ↓] def uq277 := @unC _ _ kc214.eq_1
def r_disk_step_20 : List I := [⟨some 66, .extract (.tmp 65) 0, none⟩, ⟨some 67, .extract (.tmp 65) 1, none⟩, ⟨none, .store 26 (.tmp 4) (.tmp 66), none⟩, ⟨some 5, .assign (.tmp 67), none⟩]
@[go_sem ↓] def uq278 := @unI _ _ r_disk_step_20.eq_1
def kc215 : C := (.seq (.seq (.reg (⟨some 64, .load 26 (.tmp 2), none⟩ :: ⟨some 65, .call { callee := .value (.func 59), args := #[(.tmp 64)], argTypes := #[26] }, none⟩ :: r_disk_step_20)) (.keep [4, 5])) .ret)
@[go_sem ↓] def uq279 := @unC _ _ kc215.eq_1
def kc216 : C := (.cond (.tmp 62) kc215 .skip)
@[go_sem ↓] def uq280 := @unC _ _ kc216.eq_1
def kc217 : C := (.seq (.seq (.reg ([⟨some 63, .binOp .eql 5 (.tmp 47) (.const (.int .u8 6)) 5, none⟩, ⟨some 62, .assign (.tmp 63), none⟩])) (.keep [2, 4, 62])) kc216)
@[go_sem ↓] def uq281 := @unC _ _ kc217.eq_1
def kc218 : C := (.cond (.tmp 56) kc214 kc217)
@[go_sem ↓] def uq282 := @unC _ _ kc218.eq_1
def kc219 : C := (.seq (.seq (.reg ([⟨some 57, .binOp .eql 5 (.tmp 47) (.const (.int .u8 2)) 5, none⟩, ⟨some 56, .assign (.tmp 57), none⟩])) (.keep [2, 4, 47, 56])) kc218)
@[go_sem ↓] def uq283 := @unC _ _ kc219.eq_1
def kc220 : C := (.cond (.tmp 48) kc213 kc219)
@[go_sem ↓] def uq284 := @unC _ _ kc220.eq_1
def kc221 : C := (.block 1 (.seq (.seq (.reg ([⟨some 49, .binOp .eql 5 (.tmp 47) (.const (.int .u8 1)) 5, none⟩, ⟨some 48, .assign (.tmp 49), none⟩])) (.keep [2, 3, 4, 47, 48])) kc220))
@[go_sem ↓] def uq285 := @unC _ _ kc221.eq_1
def kc222 : C := (.seq (.seq (.reg ([⟨some 68, .build 26 #[], none⟩, ⟨none, .store 26 (.tmp 4) (.tmp 68), none⟩, ⟨some 5, .assign (.const (.int .i64 2)), none⟩])) (.keep [4, 5])) .ret)
@[go_sem ↓] def uq286 := @unC _ _ kc222.eq_1
def kc223 : C := (.seq (.seq (.seq (.reg ([⟨some 46, .fieldAddr 43 (.tmp 3) 0, none⟩, ⟨some 47, .load 5 (.tmp 46), none⟩])) (.keep [2, 3, 4, 47])) kc221) kc222)
@[go_sem ↓] def uq287 := @unC _ _ kc223.eq_1
def kc224 : C := (.seq (.seq (.seq (.reg ([⟨some 42, .fieldAddr 43 (.tmp 3) 2, none⟩, ⟨some 43, .load 3 (.tmp 42), none⟩, ⟨some 44, .binOp .neq 3 (.tmp 43) (.const (.int .i64 0)) 3, none⟩])) (.keep [2, 3, 4, 44])) kc212) kc223)
@[go_sem ↓] def uq288 := @unC _ _ kc224.eq_1
def kc225 : C := (.seq (.seq (.seq (.reg ([⟨some 16, .fieldAddr 43 (.tmp 3) 0, none⟩, ⟨some 17, .load 5 (.tmp 16), none⟩])) (.keep [2, 3, 4, 17])) kc210) kc224)
@[go_sem ↓] def uq289 := @unC _ _ kc225.eq_1
def kc226 : C := (.seq (.seq (.seq (.reg ([⟨some 6, .fieldAddr 43 (.tmp 3) 0, none⟩, ⟨some 7, .load 5 (.tmp 6), none⟩, ⟨some 8, .binOp .neq 5 (.tmp 7) (.const (.int .u8 1)) 5, none⟩, ⟨some 9, .move (.tmp 8), none⟩, ⟨some 10, .fieldAddr 43 (.tmp 3) 1, some (9, true)⟩, ⟨some 11, .load 24 (.tmp 10), some (9, true)⟩, ⟨some 12, .call { callee := .builtin .len, args := #[(.tmp 11)], argTypes := #[24] }, some (9, true)⟩, ⟨some 13, .binOp .gtr 3 (.tmp 12) (.const (.int .i64 0)) 3, some (9, true)⟩, ⟨some 14, .pick (.tmp 9) (.tmp 13) (.const (.bool false)), none⟩])) (.keep [2, 3, 4, 14])) kc201) kc225)
@[go_sem ↓] def uq290 := @unC _ _ kc226.eq_1
def c_disk_step : C := (.seq (.seq (.reg ([⟨some 2, .box 26 (.tmp 0), none⟩, ⟨some 3, .box 43 (.tmp 1), none⟩, ⟨some 4, .alloc 26, none⟩, ⟨some 5, .assign (.const (.int .i64 0)), none⟩])) (.keep [2, 3, 4])) kc226)
attribute [go_sem ↓] c_disk_step
def h_disk_step : List Hint := [⟨[], [2, 3, 4], []⟩, ⟨[], [2, 3, 4, 14], []⟩, ⟨[], [4, 5], []⟩, ⟨[], [2, 3, 4, 17], []⟩, ⟨[], [2, 3, 4, 17, 18], []⟩, ⟨[], [4, 5], []⟩, ⟨[], [2, 3, 4, 17, 26], []⟩, ⟨[], [4, 5], []⟩, ⟨[], [2, 3, 4, 34], []⟩, ⟨[], [4, 5], []⟩, ⟨[], [2, 3, 4, 44], []⟩, ⟨[], [4, 5], []⟩, ⟨[], [2, 3, 4, 47], []⟩, ⟨[], [2, 3, 4, 47, 48], []⟩, ⟨[], [4, 5], []⟩, ⟨[], [2, 4, 47, 56], []⟩, ⟨[], [4, 5], []⟩, ⟨[], [2, 4, 62], []⟩, ⟨[], [4, 5], []⟩, ⟨[], [4, 5], []⟩]
theorem b_disk_step : Body Try.prog 41 [] h_disk_step c_disk_step 69 [.cell 4 26, .tmp 5] := body_of Try.func41 (by kernel_rfl) (by kernel_rfl) (by kernel_rfl) (by kernel_rfl)
def c_ref01_Whole : C := (.seq (.seq (.reg ([⟨some 1, .box 26 (.tmp 0), none⟩, ⟨some 2, .assign (.const (.slice none 0 0)), none⟩])) (.keep [1])) (.seq (.seq (.draw ([⟨⟨some 3, .buildSlice 24 0 #[], none⟩, []⟩, ⟨⟨some 4, .fieldAddr 26 (.tmp 1) 0, none⟩, [0]⟩, ⟨⟨some 5, .load 24 (.tmp 4), none⟩, [0]⟩, ⟨⟨some 6, .call { callee := .builtin .append, args := #[(.tmp 3), (.tmp 5)], argTypes := #[24, 24] }, none⟩, []⟩, ⟨⟨some 7, .fieldAddr 26 (.tmp 1) 1, none⟩, [0, 1, 2, 3]⟩, ⟨⟨some 8, .load 24 (.tmp 7), none⟩, [0, 1, 2, 3]⟩, ⟨⟨some 9, .call { callee := .builtin .append, args := #[(.tmp 6), (.tmp 8)], argTypes := #[24, 24] }, none⟩, []⟩, ⟨⟨some 2, .assign (.tmp 9), none⟩, []⟩])) (.keep [2])) .ret))
attribute [go_sem ↓] c_ref01_Whole
def h_ref01_Whole : List Hint := [⟨[], [1], []⟩, ⟨[], [2], []⟩]
theorem b_ref01_Whole : Body Try.prog 45 [] h_ref01_Whole c_ref01_Whole 10 [.tmp 2] := body_of Try.func45 (by kernel_rfl) (by kernel_rfl) (by kernel_rfl) (by kernel_rfl)
def c_disk_Crash : C := (.seq (.seq (.reg ([⟨some 2, .box 26 (.tmp 0), none⟩, ⟨some 4, .alloc 26, none⟩, ⟨some 5, .assign (.const (.int .i64 0)), none⟩])) (.keep [1, 2, 4])) (.seq (.seq (.seq (.reg ([⟨some 8, .load 26 (.tmp 2), none⟩, ⟨some 9, .call { callee := .value (.func 78), args := #[(.tmp 8)], argTypes := #[26] }, none⟩, ⟨some 6, .assign (.tmp 9), none⟩])) (.keep [1, 2, 4, 6])) (.seq (.seq (.reg ([⟨some 10, .move (.tmp 6), none⟩, ⟨some 11, .binOp .neq 35 (.tmp 10) (.const (.int .i64 0)) 35, none⟩])) (.keep [1, 2, 4, 6, 11])) (.cond (.tmp 11) (.seq (.seq (.reg ([⟨some 12, .build 26 #[], none⟩, ⟨some 13, .move (.tmp 6), none⟩, ⟨none, .store 26 (.tmp 4) (.tmp 12), none⟩, ⟨some 5, .assign (.tmp 13), none⟩])) (.keep [4, 5])) .ret) .skip))) (.seq (.seq (.seq (.reg ([⟨some 14, .move (.tmp 1), none⟩, ⟨some 15, .binOp .lss 3 (.tmp 14) (.const (.int .i64 0)) 3, none⟩, ⟨some 16, .move (.tmp 15), none⟩, ⟨some 17, .move (.tmp 1), some (16, false)⟩, ⟨some 18, .fieldAddr 26 (.tmp 2) 1, some (16, false)⟩, ⟨some 19, .load 24 (.tmp 18), some (16, false)⟩, ⟨some 20, .call { callee := .builtin .len, args := #[(.tmp 19)], argTypes := #[24] }, some (16, false)⟩, ⟨some 21, .binOp .gtr 3 (.tmp 17) (.tmp 20) 3, some (16, false)⟩, ⟨some 22, .pick (.tmp 16) (.const (.bool true)) (.tmp 21), none⟩])) (.keep [1, 2, 4, 22])) (.cond (.tmp 22) (.seq (.seq (.reg ([⟨some 23, .build 26 #[], none⟩, ⟨none, .store 26 (.tmp 4) (.tmp 23), none⟩, ⟨some 5, .assign (.const (.int .i64 2)), none⟩])) (.keep [4, 5])) .ret) .skip)) (.seq (.seq (.draw ([⟨⟨some 24, .load 26 (.tmp 2), none⟩, []⟩, ⟨⟨some 25, .fieldAddr 26 (.tmp 2) 0, none⟩, [0]⟩, ⟨⟨some 26, .load 24 (.tmp 25), none⟩, [0]⟩, ⟨⟨some 27, .fieldAddr 26 (.tmp 2) 1, none⟩, [0, 1, 2]⟩, ⟨⟨some 28, .load 24 (.tmp 27), none⟩, [0, 1, 2]⟩, ⟨⟨some 29, .move (.tmp 1), none⟩, [0, 1, 2, 3, 4]⟩, ⟨⟨some 30, .slice 24 (.tmp 28) none (some (.tmp 29)) none, none⟩, [0, 1, 2]⟩, ⟨⟨some 31, .buildSlice 138 2 #[(0, (.tmp 26)), (1, (.tmp 30))], none⟩, [0]⟩, ⟨⟨some 32, .call { callee := .value (.func 72), args := #[(.tmp 31)], argTypes := #[138] }, none⟩, [0]⟩, ⟨⟨some 33, .call { callee := .value (.func 40), args := #[(.tmp 24), (.tmp 32), (.const (.slice none 0 0))], argTypes := #[26, 24, 24] }, none⟩, []⟩, ⟨⟨some 7, .alloc 26, none⟩, [0, 1, 2, 3, 4, 5, 6, 7, 8, 9]⟩, ⟨⟨none, .store 26 (.tmp 7) (.tmp 33), none⟩, []⟩])) (.keep [4, 7])) (.seq (.seq (.reg ([⟨some 34, .fieldAddr 26 (.tmp 7) 3, none⟩, ⟨none, .store 4 (.tmp 34) (.const (.bool true)), none⟩])) (.keep [4, 7])) (.seq (.seq (.reg ([⟨some 35, .load 26 (.tmp 7), none⟩, ⟨none, .store 26 (.tmp 4) (.tmp 35), none⟩, ⟨some 5, .assign (.const (.int .i64 0)), none⟩])) (.keep [4, 5])) .ret))))))
attribute [go_sem ↓] c_disk_Crash
def h_disk_Crash : List Hint := [⟨[], [1, 2, 4], []⟩, ⟨[], [1, 2, 4, 6], []⟩, ⟨[], [1, 2, 4, 6, 11], []⟩, ⟨[], [4, 5], []⟩, ⟨[], [1, 2, 4, 22], []⟩, ⟨[], [4, 5], []⟩, ⟨[], [4, 7], []⟩, ⟨[], [4, 7], []⟩, ⟨[], [4, 5], []⟩]
theorem b_disk_Crash : Body Try.prog 52 [] h_disk_Crash c_disk_Crash 36 [.cell 4 26, .tmp 5] := body_of Try.func52 (by kernel_rfl) (by kernel_rfl) (by kernel_rfl) (by kernel_rfl)
def c_disk_Start : C := (.seq (.seq (.reg ([⟨some 1, .box 26 (.tmp 0), none⟩, ⟨some 2, .alloc 26, none⟩, ⟨some 3, .assign (.const (.int .i64 0)), none⟩])) (.keep [1, 2])) (.seq (.seq (.seq (.reg ([⟨some 5, .load 26 (.tmp 1), none⟩, ⟨some 6, .call { callee := .value (.func 39), args := #[(.tmp 5)], argTypes := #[26] }, none⟩, ⟨some 4, .assign (.tmp 6), none⟩])) (.keep [1, 2, 4])) (.seq (.seq (.reg ([⟨some 7, .move (.tmp 4), none⟩, ⟨some 8, .binOp .neq 35 (.tmp 7) (.const (.int .i64 0)) 35, none⟩])) (.keep [1, 2, 4, 8])) (.cond (.tmp 8) (.seq (.seq (.reg ([⟨some 9, .build 26 #[], none⟩, ⟨some 10, .move (.tmp 4), none⟩, ⟨none, .store 26 (.tmp 2) (.tmp 9), none⟩, ⟨some 3, .assign (.tmp 10), none⟩])) (.keep [2, 3])) .ret) .skip))) (.seq (.seq (.seq (.reg ([⟨some 11, .fieldAddr 26 (.tmp 1) 3, none⟩, ⟨some 12, .load 4 (.tmp 11), none⟩, ⟨some 13, .unOp .not 4 (.tmp 12), none⟩])) (.keep [1, 2, 13])) (.cond (.tmp 13) (.seq (.seq (.reg ([⟨some 14, .build 26 #[], none⟩, ⟨none, .store 26 (.tmp 2) (.tmp 14), none⟩, ⟨some 3, .assign (.const (.int .i64 36)), none⟩])) (.keep [2, 3])) .ret) .skip)) (.seq (.seq (.reg ([⟨some 15, .load 26 (.tmp 1), none⟩, ⟨some 16, .fieldAddr 26 (.tmp 1) 0, none⟩, ⟨some 17, .load 24 (.tmp 16), none⟩, ⟨some 18, .call { callee := .value (.func 40), args := #[(.tmp 15), (.tmp 17), (.const (.slice none 0 0))], argTypes := #[26, 24, 24] }, none⟩, ⟨none, .store 26 (.tmp 2) (.tmp 18), none⟩, ⟨some 3, .assign (.const (.int .i64 0)), none⟩])) (.keep [2, 3])) .ret))))
attribute [go_sem ↓] c_disk_Start
def h_disk_Start : List Hint := [⟨[], [1, 2], []⟩, ⟨[], [1, 2, 4], []⟩, ⟨[], [1, 2, 4, 8], []⟩, ⟨[], [2, 3], []⟩, ⟨[], [1, 2, 13], []⟩, ⟨[], [2, 3], []⟩, ⟨[], [2, 3], []⟩]
theorem b_disk_Start : Body Try.prog 59 [] h_disk_Start c_disk_Start 19 [.cell 2 26, .tmp 3] := body_of Try.func59 (by kernel_rfl) (by kernel_rfl) (by kernel_rfl) (by kernel_rfl)
def c_disk_Truncate : C := (.seq (.seq (.reg ([⟨some 2, .box 26 (.tmp 0), none⟩, ⟨some 4, .alloc 26, none⟩, ⟨some 5, .assign (.const (.int .i64 0)), none⟩])) (.keep [1, 2, 4])) (.seq (.seq (.seq (.reg ([⟨some 8, .load 26 (.tmp 2), none⟩, ⟨some 9, .call { callee := .value (.func 78), args := #[(.tmp 8)], argTypes := #[26] }, none⟩, ⟨some 6, .assign (.tmp 9), none⟩])) (.keep [1, 2, 4, 6])) (.seq (.seq (.reg ([⟨some 10, .move (.tmp 6), none⟩, ⟨some 11, .binOp .neq 35 (.tmp 10) (.const (.int .i64 0)) 35, none⟩])) (.keep [1, 2, 4, 6, 11])) (.cond (.tmp 11) (.seq (.seq (.reg ([⟨some 12, .build 26 #[], none⟩, ⟨some 13, .move (.tmp 6), none⟩, ⟨none, .store 26 (.tmp 4) (.tmp 12), none⟩, ⟨some 5, .assign (.tmp 13), none⟩])) (.keep [4, 5])) .ret) .skip))) (.seq (.seq (.reg ([⟨some 14, .move (.tmp 1), none⟩, ⟨some 15, .fieldAddr 26 (.tmp 2) 0, none⟩, ⟨some 16, .load 24 (.tmp 15), none⟩, ⟨some 17, .call { callee := .builtin .len, args := #[(.tmp 16)], argTypes := #[24] }, none⟩, ⟨some 18, .binOp .sub 3 (.tmp 14) (.tmp 17) 3, none⟩, ⟨some 7, .assign (.tmp 18), none⟩])) (.keep [1, 2, 4, 7])) (.seq (.block 0 (.seq (.seq (.reg ([⟨some 20, .move (.tmp 1), none⟩, ⟨some 21, .binOp .lss 3 (.tmp 20) (.const (.int .i64 0)) 3, none⟩, ⟨some 22, .move (.tmp 21), none⟩, ⟨some 23, .move (.tmp 7), some (22, false)⟩, ⟨some 24, .fieldAddr 26 (.tmp 2) 1, some (22, false)⟩, ⟨some 25, .load 24 (.tmp 24), some (22, false)⟩, ⟨some 26, .call { callee := .builtin .len, args := #[(.tmp 25)], argTypes := #[24] }, some (22, false)⟩, ⟨some 27, .binOp .gtr 3 (.tmp 23) (.tmp 26) 3, some (22, false)⟩, ⟨some 28, .pick (.tmp 22) (.const (.bool true)) (.tmp 27), none⟩, ⟨some 19, .assign (.tmp 28), none⟩])) (.keep [1, 2, 4, 7, 19])) (.cond (.tmp 19) (.seq (.seq (.reg ([⟨some 29, .build 26 #[], none⟩, ⟨none, .store 26 (.tmp 4) (.tmp 29), none⟩, ⟨some 5, .assign (.const (.int .i64 2)), none⟩])) (.keep [4, 5])) .ret) (.seq (.seq (.reg ([⟨some 31, .move (.tmp 7), none⟩, ⟨some 32, .binOp .leq 3 (.tmp 31) (.const (.int .i64 0)) 3, none⟩, ⟨some 30, .assign (.tmp 32), none⟩])) (.keep [1, 2, 4, 7, 30])) (.cond (.tmp 30) (.seq (.seq (.draw ([⟨⟨some 33, .load 26 (.tmp 2), none⟩, []⟩, ⟨⟨some 34, .fieldAddr 26 (.tmp 2) 0, none⟩, [0]⟩, ⟨⟨some 35, .load 24 (.tmp 34), none⟩, [0]⟩, ⟨⟨some 36, .move (.tmp 1), none⟩, [0, 1, 2]⟩, ⟨⟨some 37, .slice 24 (.tmp 35) none (some (.tmp 36)) none, none⟩, [0]⟩, ⟨⟨some 38, .call { callee := .value (.func 40), args := #[(.tmp 33), (.tmp 37), (.const (.slice none 0 0))], argTypes := #[26, 24, 24] }, none⟩, []⟩, ⟨⟨none, .store 26 (.tmp 4) (.tmp 38), none⟩, []⟩, ⟨⟨some 5, .assign (.const (.int .i64 0)), none⟩, []⟩])) (.keep [4, 5])) .ret) .skip))))) (.seq (.seq (.draw ([⟨⟨some 39, .load 26 (.tmp 2), none⟩, []⟩, ⟨⟨some 40, .fieldAddr 26 (.tmp 2) 0, none⟩, [0]⟩, ⟨⟨some 41, .load 24 (.tmp 40), none⟩, [0]⟩, ⟨⟨some 42, .fieldAddr 26 (.tmp 2) 1, none⟩, [0, 1, 2]⟩, ⟨⟨some 43, .load 24 (.tmp 42), none⟩, [0, 1, 2]⟩, ⟨⟨some 44, .move (.tmp 7), none⟩, [0, 1, 2, 3, 4]⟩, ⟨⟨some 45, .slice 24 (.tmp 43) none (some (.tmp 44)) none, none⟩, [0, 1, 2]⟩, ⟨⟨some 46, .call { callee := .value (.func 40), args := #[(.tmp 39), (.tmp 41), (.tmp 45)], argTypes := #[26, 24, 24] }, none⟩, []⟩, ⟨⟨none, .store 26 (.tmp 4) (.tmp 46), none⟩, []⟩, ⟨⟨some 5, .assign (.const (.int .i64 0)), none⟩, []⟩])) (.keep [4, 5])) .ret)))))
attribute [go_sem ↓] c_disk_Truncate
def h_disk_Truncate : List Hint := [⟨[], [1, 2, 4], []⟩, ⟨[], [1, 2, 4, 6], []⟩, ⟨[], [1, 2, 4, 6, 11], []⟩, ⟨[], [4, 5], []⟩, ⟨[], [1, 2, 4, 7], []⟩, ⟨[], [1, 2, 4, 7, 19], []⟩, ⟨[], [4, 5], []⟩, ⟨[], [1, 2, 4, 7, 30], []⟩, ⟨[], [4, 5], []⟩, ⟨[], [4, 5], []⟩]
theorem b_disk_Truncate : Body Try.prog 61 [] h_disk_Truncate c_disk_Truncate 47 [.cell 4 26, .tmp 5] := body_of Try.func61 (by kernel_rfl) (by kernel_rfl) (by kernel_rfl) (by kernel_rfl)
def c_disk_Sync : C := (.seq (.seq (.reg ([⟨some 1, .box 26 (.tmp 0), none⟩, ⟨some 2, .alloc 26, none⟩, ⟨some 3, .assign (.const (.int .i64 0)), none⟩])) (.keep [1, 2])) (.seq (.seq (.seq (.reg ([⟨some 5, .load 26 (.tmp 1), none⟩, ⟨some 6, .call { callee := .value (.func 78), args := #[(.tmp 5)], argTypes := #[26] }, none⟩, ⟨some 4, .assign (.tmp 6), none⟩])) (.keep [1, 2, 4])) (.seq (.seq (.reg ([⟨some 7, .move (.tmp 4), none⟩, ⟨some 8, .binOp .neq 35 (.tmp 7) (.const (.int .i64 0)) 35, none⟩])) (.keep [1, 2, 4, 8])) (.cond (.tmp 8) (.seq (.seq (.reg ([⟨some 9, .build 26 #[], none⟩, ⟨some 10, .move (.tmp 4), none⟩, ⟨none, .store 26 (.tmp 2) (.tmp 9), none⟩, ⟨some 3, .assign (.tmp 10), none⟩])) (.keep [2, 3])) .ret) .skip))) (.seq (.seq (.draw ([⟨⟨some 11, .load 26 (.tmp 1), none⟩, []⟩, ⟨⟨some 12, .fieldAddr 26 (.tmp 1) 0, none⟩, [0]⟩, ⟨⟨some 13, .load 24 (.tmp 12), none⟩, [0]⟩, ⟨⟨some 14, .fieldAddr 26 (.tmp 1) 1, none⟩, [0, 1, 2]⟩, ⟨⟨some 15, .load 24 (.tmp 14), none⟩, [0, 1, 2]⟩, ⟨⟨some 16, .buildSlice 138 2 #[(0, (.tmp 13)), (1, (.tmp 15))], none⟩, [0]⟩, ⟨⟨some 17, .call { callee := .value (.func 72), args := #[(.tmp 16)], argTypes := #[138] }, none⟩, [0]⟩, ⟨⟨some 18, .call { callee := .value (.func 40), args := #[(.tmp 11), (.tmp 17), (.const (.slice none 0 0))], argTypes := #[26, 24, 24] }, none⟩, []⟩, ⟨⟨none, .store 26 (.tmp 2) (.tmp 18), none⟩, []⟩, ⟨⟨some 3, .assign (.const (.int .i64 0)), none⟩, []⟩])) (.keep [2, 3])) .ret)))
attribute [go_sem ↓] c_disk_Sync
def h_disk_Sync : List Hint := [⟨[], [1, 2], []⟩, ⟨[], [1, 2, 4], []⟩, ⟨[], [1, 2, 4, 8], []⟩, ⟨[], [2, 3], []⟩, ⟨[], [2, 3], []⟩]
theorem b_disk_Sync : Body Try.prog 62 [] h_disk_Sync c_disk_Sync 19 [.cell 2 26, .tmp 3] := body_of Try.func62 (by kernel_rfl) (by kernel_rfl) (by kernel_rfl) (by kernel_rfl)
def c_disk_Drop : C := (.seq (.seq (.reg ([⟨some 2, .box 26 (.tmp 0), none⟩, ⟨some 4, .alloc 26, none⟩, ⟨some 5, .assign (.const (.int .i64 0)), none⟩])) (.keep [1, 2, 4])) (.seq (.seq (.seq (.reg ([⟨some 7, .load 26 (.tmp 2), none⟩, ⟨some 8, .call { callee := .value (.func 78), args := #[(.tmp 7)], argTypes := #[26] }, none⟩, ⟨some 6, .assign (.tmp 8), none⟩])) (.keep [1, 2, 4, 6])) (.seq (.seq (.reg ([⟨some 9, .move (.tmp 6), none⟩, ⟨some 10, .binOp .neq 35 (.tmp 9) (.const (.int .i64 0)) 35, none⟩])) (.keep [1, 2, 4, 6, 10])) (.cond (.tmp 10) (.seq (.seq (.reg ([⟨some 11, .build 26 #[], none⟩, ⟨some 12, .move (.tmp 6), none⟩, ⟨none, .store 26 (.tmp 4) (.tmp 11), none⟩, ⟨some 5, .assign (.tmp 12), none⟩])) (.keep [4, 5])) .ret) .skip))) (.seq (.seq (.seq (.reg ([⟨some 13, .move (.tmp 1), none⟩, ⟨some 14, .binOp .lss 3 (.tmp 13) (.const (.int .i64 0)) 3, none⟩, ⟨some 15, .move (.tmp 14), none⟩, ⟨some 16, .move (.tmp 1), some (15, false)⟩, ⟨some 17, .fieldAddr 26 (.tmp 2) 0, some (15, false)⟩, ⟨some 18, .load 24 (.tmp 17), some (15, false)⟩, ⟨some 19, .call { callee := .builtin .len, args := #[(.tmp 18)], argTypes := #[24] }, some (15, false)⟩, ⟨some 20, .binOp .gtr 3 (.tmp 16) (.tmp 19) 3, some (15, false)⟩, ⟨some 21, .pick (.tmp 15) (.const (.bool true)) (.tmp 20), none⟩])) (.keep [1, 2, 4, 21])) (.cond (.tmp 21) (.seq (.seq (.reg ([⟨some 22, .build 26 #[], none⟩, ⟨none, .store 26 (.tmp 4) (.tmp 22), none⟩, ⟨some 5, .assign (.const (.int .i64 2)), none⟩])) (.keep [4, 5])) .ret) .skip)) (.seq (.seq (.draw ([⟨⟨some 23, .load 26 (.tmp 2), none⟩, []⟩, ⟨⟨some 24, .fieldAddr 26 (.tmp 2) 0, none⟩, [0]⟩, ⟨⟨some 25, .load 24 (.tmp 24), none⟩, [0]⟩, ⟨⟨some 26, .move (.tmp 1), none⟩, [0, 1, 2]⟩, ⟨⟨some 27, .slice 24 (.tmp 25) (some (.tmp 26)) none none, none⟩, [0]⟩, ⟨⟨some 28, .fieldAddr 26 (.tmp 2) 1, none⟩, [0, 1, 2, 3, 4]⟩, ⟨⟨some 29, .load 24 (.tmp 28), none⟩, [0, 1, 2, 3, 4]⟩, ⟨⟨some 30, .call { callee := .value (.func 40), args := #[(.tmp 23), (.tmp 27), (.tmp 29)], argTypes := #[26, 24, 24] }, none⟩, []⟩, ⟨⟨none, .store 26 (.tmp 4) (.tmp 30), none⟩, []⟩, ⟨⟨some 5, .assign (.const (.int .i64 0)), none⟩, []⟩])) (.keep [4, 5])) .ret))))
attribute [go_sem ↓] c_disk_Drop
def h_disk_Drop : List Hint := [⟨[], [1, 2, 4], []⟩, ⟨[], [1, 2, 4, 6], []⟩, ⟨[], [1, 2, 4, 6, 10], []⟩, ⟨[], [4, 5], []⟩, ⟨[], [1, 2, 4, 21], []⟩, ⟨[], [4, 5], []⟩, ⟨[], [4, 5], []⟩]
theorem b_disk_Drop : Body Try.prog 69 [] h_disk_Drop c_disk_Drop 31 [.cell 4 26, .tmp 5] := body_of Try.func69 (by kernel_rfl) (by kernel_rfl) (by kernel_rfl) (by kernel_rfl)
def c_disk_Append : C := (.seq (.seq (.reg ([⟨some 2, .box 26 (.tmp 0), none⟩, ⟨some 4, .alloc 26, none⟩, ⟨some 5, .assign (.const (.int .i64 0)), none⟩])) (.keep [1, 2, 4])) (.seq (.seq (.seq (.reg ([⟨some 7, .load 26 (.tmp 2), none⟩, ⟨some 8, .call { callee := .value (.func 78), args := #[(.tmp 7)], argTypes := #[26] }, none⟩, ⟨some 6, .assign (.tmp 8), none⟩])) (.keep [1, 2, 4, 6])) (.seq (.seq (.reg ([⟨some 9, .move (.tmp 6), none⟩, ⟨some 10, .binOp .neq 35 (.tmp 9) (.const (.int .i64 0)) 35, none⟩])) (.keep [1, 2, 4, 6, 10])) (.cond (.tmp 10) (.seq (.seq (.reg ([⟨some 11, .build 26 #[], none⟩, ⟨some 12, .move (.tmp 6), none⟩, ⟨none, .store 26 (.tmp 4) (.tmp 11), none⟩, ⟨some 5, .assign (.tmp 12), none⟩])) (.keep [4, 5])) .ret) .skip))) (.seq (.seq (.seq (.reg ([⟨some 13, .move (.tmp 1), none⟩, ⟨some 14, .call { callee := .builtin .len, args := #[(.tmp 13)], argTypes := #[24] }, none⟩, ⟨some 15, .fieldAddr 26 (.tmp 2) 2, none⟩, ⟨some 16, .load 3 (.tmp 15), none⟩, ⟨some 17, .fieldAddr 26 (.tmp 2) 0, none⟩, ⟨some 18, .load 24 (.tmp 17), none⟩, ⟨some 19, .call { callee := .builtin .len, args := #[(.tmp 18)], argTypes := #[24] }, none⟩, ⟨some 20, .binOp .sub 3 (.tmp 16) (.tmp 19) 3, none⟩, ⟨some 21, .fieldAddr 26 (.tmp 2) 1, none⟩, ⟨some 22, .load 24 (.tmp 21), none⟩, ⟨some 23, .call { callee := .builtin .len, args := #[(.tmp 22)], argTypes := #[24] }, none⟩, ⟨some 24, .binOp .sub 3 (.tmp 20) (.tmp 23) 3, none⟩, ⟨some 25, .binOp .gtr 3 (.tmp 14) (.tmp 24) 3, none⟩])) (.keep [1, 2, 4, 25])) (.cond (.tmp 25) (.seq (.seq (.reg ([⟨some 26, .build 26 #[], none⟩, ⟨none, .store 26 (.tmp 4) (.tmp 26), none⟩, ⟨some 5, .assign (.const (.int .i64 18)), none⟩])) (.keep [4, 5])) .ret) .skip)) (.seq (.seq (.draw ([⟨⟨some 27, .load 26 (.tmp 2), none⟩, []⟩, ⟨⟨some 28, .fieldAddr 26 (.tmp 2) 0, none⟩, [0]⟩, ⟨⟨some 29, .load 24 (.tmp 28), none⟩, [0]⟩, ⟨⟨some 30, .fieldAddr 26 (.tmp 2) 1, none⟩, [0, 1, 2]⟩, ⟨⟨some 31, .load 24 (.tmp 30), none⟩, [0, 1, 2]⟩, ⟨⟨some 32, .move (.tmp 1), none⟩, [0, 1, 2, 3, 4]⟩, ⟨⟨some 33, .buildSlice 138 2 #[(0, (.tmp 31)), (1, (.tmp 32))], none⟩, [0, 1, 2]⟩, ⟨⟨some 34, .call { callee := .value (.func 72), args := #[(.tmp 33)], argTypes := #[138] }, none⟩, [0, 1, 2]⟩, ⟨⟨some 35, .call { callee := .value (.func 40), args := #[(.tmp 27), (.tmp 29), (.tmp 34)], argTypes := #[26, 24, 24] }, none⟩, []⟩, ⟨⟨none, .store 26 (.tmp 4) (.tmp 35), none⟩, []⟩, ⟨⟨some 5, .assign (.const (.int .i64 0)), none⟩, []⟩])) (.keep [4, 5])) .ret))))
attribute [go_sem ↓] c_disk_Append
def h_disk_Append : List Hint := [⟨[], [1, 2, 4], []⟩, ⟨[], [1, 2, 4, 6], []⟩, ⟨[], [1, 2, 4, 6, 10], []⟩, ⟨[], [4, 5], []⟩, ⟨[], [1, 2, 4, 25], []⟩, ⟨[], [4, 5], []⟩, ⟨[], [4, 5], []⟩]
theorem b_disk_Append : Body Try.prog 75 [] h_disk_Append c_disk_Append 36 [.cell 4 26, .tmp 5] := body_of Try.func75 (by kernel_rfl) (by kernel_rfl) (by kernel_rfl) (by kernel_rfl)
def c_disk_up : C := (.seq (.seq (.reg ([⟨some 1, .box 26 (.tmp 0), none⟩, ⟨some 2, .assign (.const (.int .i64 0)), none⟩])) (.keep [1])) (.seq (.seq (.seq (.reg ([⟨some 4, .load 26 (.tmp 1), none⟩, ⟨some 5, .call { callee := .value (.func 39), args := #[(.tmp 4)], argTypes := #[26] }, none⟩, ⟨some 3, .assign (.tmp 5), none⟩])) (.keep [1, 3])) (.seq (.seq (.reg ([⟨some 6, .move (.tmp 3), none⟩, ⟨some 7, .binOp .neq 35 (.tmp 6) (.const (.int .i64 0)) 35, none⟩])) (.keep [1, 3, 7])) (.cond (.tmp 7) (.seq (.seq (.reg ([⟨some 8, .move (.tmp 3), none⟩, ⟨some 2, .assign (.tmp 8), none⟩])) (.keep [2])) .ret) .skip))) (.seq (.seq (.seq (.reg ([⟨some 9, .fieldAddr 26 (.tmp 1) 3, none⟩, ⟨some 10, .load 4 (.tmp 9), none⟩])) (.keep [10])) (.cond (.tmp 10) (.seq (.seq (.reg ([⟨some 2, .assign (.const (.int .i64 20)), none⟩])) (.keep [2])) .ret) .skip)) (.seq (.seq (.reg ([⟨some 2, .assign (.const (.int .i64 0)), none⟩])) (.keep [2])) .ret))))
attribute [go_sem ↓] c_disk_up
def h_disk_up : List Hint := [⟨[], [1], []⟩, ⟨[], [1, 3], []⟩, ⟨[], [1, 3, 7], []⟩, ⟨[], [2], []⟩, ⟨[], [10], []⟩, ⟨[], [2], []⟩, ⟨[], [2], []⟩]
theorem b_disk_up : Body Try.prog 78 [] h_disk_up c_disk_up 11 [.tmp 2] := body_of Try.func78 (by kernel_rfl) (by kernel_rfl) (by kernel_rfl) (by kernel_rfl)
structure Dev where
  syn : List (BitVec 8)
  tail : List (BitVec 8)
  cap : Int
  down : Bool
  deriving DecidableEq
def Dev.cells (d : Dev) : List T := [.sl (bT d.syn), .sl (bT d.tail), .i .i64 d.cap, .b d.down]
def Dev.bad (d : Dev) : Bool := decide (d.cap < 0) || (decide (20000 < d.cap) || (decide (d.cap < d.syn.length + d.tail.length) || (d.down && decide (0 < d.tail.length))))
def Dev.check (d : Dev) : Int := if d.bad then 8 else 0
def Dev.upE (d : Dev) : Int := if d.bad then 8 else if d.down then 20 else 0
def Dev.small (d : Dev) : Prop := d.syn.length ≤ 100000 ∧ d.tail.length ≤ 100000
theorem s_slices_Clone_nl : Spec Try.prog 65 [.nl] [] (.t (.sl []) true) := by
  refine spec_k (hold mixed) b_slices_Clone [(.sl [], true)] ?_
  simp -implicitDefEqProofs only [go_sem, seval]
theorem s_slices_Clone_ne : Spec Try.prog 65 [.ne] [] (.t (.sl []) true) := by
  refine spec_k (hold mixed) b_slices_Clone [(.sl [], true)] ?_
  simp -implicitDefEqProofs only [go_sem, seval]
  exact okEs_bT []
theorem s_slices_Clone (bs : List (BitVec 8)) (hl : bs.length ≤ 1000000) : Spec Try.prog 65 [.sl (bT bs)] [] (.t (.sl (bT bs)) true) := by
  cases bs with
  | nil => exact spec_sl0 s_slices_Clone_nl s_slices_Clone_ne
  | cons b bs =>
    refine spec_k (hold mixed) b_slices_Clone [(.sl (bT (b :: bs)), true)] ?_
    simp -implicitDefEqProofs only [go_sem, seval, bT_cons]
    exact ⟨⟨okEs_bT (b :: bs), by unfold room; simp at hl; omega⟩, by rw [bT_take_self]⟩
theorem s_disk_Check (d : Dev) (hd : d.small) : Spec Try.prog 39 [.agg d.cells] [] (.t (.i .i64 d.check) true) := by
  refine spec_k (hold mixed) b_disk_Check [(.i .i64 d.check, true)] ?_
  obtain ⟨h1, h2⟩ := hd
  have hw : IntKind.i64.wrap ((d.syn.length : Int) + (d.tail.length : Int)) = d.syn.length + d.tail.length := wrap_i64_id (by omega) (by omega)
  have h5 : (((d.tail.length : Nat) : Int) > 0) = (0 < d.tail.length) := propext (by omega)
  by_cases c1 : d.cap < 0
  · simp -implicitDefEqProofs only [go_sem, seval, Dev.cells, hw, Dev.check, Dev.bad, c1]
  by_cases c2 : 20000 < d.cap
  · simp -implicitDefEqProofs only [go_sem, seval, Dev.cells, hw, Dev.check, Dev.bad, c1, c2, gt_iff_lt]
  by_cases c3 : d.cap < d.syn.length + d.tail.length
  · simp -implicitDefEqProofs only [go_sem, seval, Dev.cells, hw, Dev.check, Dev.bad, c1, c2, c3, gt_iff_lt]
  by_cases c4 : d.down = true
  · by_cases c5 : 0 < d.tail.length <;> simp -implicitDefEqProofs only [go_sem, seval, Dev.cells, hw, Dev.check, Dev.bad, c1, c2, c3, c4, h5, c5, gt_iff_lt]
  · have c4 : d.down = false := by simpa using c4
    simp -implicitDefEqProofs only [go_sem, seval, Dev.cells, hw, Dev.check, Dev.bad, c1, c2, c3, c4, gt_iff_lt]
theorem s_disk_up (d : Dev) (hd : d.small) : Spec Try.prog 78 [.agg d.cells] [] (.t (.i .i64 d.upE) true) := by
  refine spec_k (hold mixed) b_disk_up [(.i .i64 d.upE, true)] ?_
  by_cases hb : d.bad = true
  · simp -implicitDefEqProofs only [go_sem, seval, Dev.cells]
    refine call_k (s_disk_Check d hd) ?_ (by simp -implicitDefEqProofs only [go_sem, seval, Dev.cells])
    simp -implicitDefEqProofs only [go_sem, seval, sk, Dev.upE, Dev.check, hb]
  · have hb : d.bad = false := by simpa using hb
    by_cases hd' : d.down = true
    · simp -implicitDefEqProofs only [go_sem, seval, Dev.cells]
      refine call_k (s_disk_Check d hd) ?_ (by simp -implicitDefEqProofs only [go_sem, seval, Dev.cells])
      simp -implicitDefEqProofs only [go_sem, seval, sk, Dev.upE, Dev.check, hb, hd']
    · have hd' : d.down = false := by simpa using hd'
      simp -implicitDefEqProofs only [go_sem, seval, Dev.cells]
      refine call_k (s_disk_Check d hd) ?_ (by simp -implicitDefEqProofs only [go_sem, seval, Dev.cells])
      simp -implicitDefEqProofs only [go_sem, seval, sk, Dev.upE, Dev.check, hb, hd']
theorem s_disk_made (d : Dev) (xs ys : List (BitVec 8)) (hx : xs.length ≤ 1000000) (hy : ys.length ≤ 1000000) : Spec Try.prog 40 [.agg d.cells, .sl (bT xs), .sl (bT ys)] [] (.t (.agg (Dev.cells ⟨xs, ys, d.cap, false⟩)) true) := by
  refine spec_k (hold mixed) b_disk_made [(.agg (Dev.cells ⟨xs, ys, d.cap, false⟩), true)] ?_
  simp -implicitDefEqProofs only [go_sem, seval, Dev.cells]
  refine call_d (s_slices_Clone xs hx) ?_
  simp -implicitDefEqProofs only [go_sem, seval]
  refine call_d (s_slices_Clone ys hy) ?_
  simp -implicitDefEqProofs only [go_sem, seval]
theorem s_disk_made_nl (d : Dev) (xs : List (BitVec 8)) (hx : xs.length ≤ 1000000) : Spec Try.prog 40 [.agg d.cells, .sl (bT xs), .nl] [] (.t (.agg (Dev.cells ⟨xs, [], d.cap, false⟩)) true) := by
  refine spec_k (hold mixed) b_disk_made [(.agg (Dev.cells ⟨xs, [], d.cap, false⟩), true)] ?_
  simp -implicitDefEqProofs only [go_sem, seval, Dev.cells]
  refine call_d (s_slices_Clone xs hx) ?_
  simp -implicitDefEqProofs only [go_sem, seval]
  refine call_d s_slices_Clone_nl ?_
  simp -implicitDefEqProofs only [go_sem, seval]
  rfl
def sameD (d e : Dev) : Bool := (d.cap == e.cap) && ((d.down == e.down) && ((d.syn == e.syn) && (d.tail == e.tail)))
theorem sameD_self (d : Dev) : sameD d d = true := by simp [sameD]
theorem s_ref01_Same (d e : Dev) (h1 : d.small) (h2 : e.small) : Spec Try.prog 15 [.agg d.cells, .agg e.cells] [] (.t (.b (sameD d e)) true) := by
  refine spec_k (hold mixed) b_ref01_Same [(.b (sameD d e), true)] ?_
  obtain ⟨a1, a2⟩ := h1
  obtain ⟨b1, b2⟩ := h2
  by_cases c1 : (d.cap == e.cap) = true
  · by_cases c2 : (d.down == e.down) = true
    · simp -implicitDefEqProofs only [go_sem, seval, Dev.cells, c1, c2]
      refine call_k (s_ref01_SameBytes d.syn e.syn (by omega) (by omega)) ?_
      by_cases c3 : (d.syn == e.syn) = true
      · simp -implicitDefEqProofs only [go_sem, seval, c3]
        refine call_k (s_ref01_SameBytes d.tail e.tail (by omega) (by omega)) ?_
        simp -implicitDefEqProofs only [go_sem, seval, sameD, c1, c2, c3]
      · have c3 : (d.syn == e.syn) = false := by simpa using c3
        simp -implicitDefEqProofs only [go_sem, seval, sameD, c1, c2, c3]
    · have c2 : (d.down == e.down) = false := by simpa using c2
      simp -implicitDefEqProofs only [go_sem, seval, Dev.cells, c1, c2, sameD]
  · have c1 : (d.cap == e.cap) = false := by simpa using c1
    simp -implicitDefEqProofs only [go_sem, seval, Dev.cells, c1, sameD]
theorem s_ref01_Whole (d : Dev) (hd : d.small) : Spec Try.prog 45 [.agg d.cells] [.row 0 1 (bT (d.syn ++ d.tail)) true] (.row 0 0 0 (d.syn ++ d.tail).length) := by
  refine spec_ko (hold mixed) b_ref01_Whole [.row 0 1 (bT (d.syn ++ d.tail)) true] [.row 0 0 0 (d.syn ++ d.tail).length] ?_
  obtain ⟨a1, a2⟩ := hd
  have r1 : (d.syn.length * 1 ≤ room) = True := eq_true (by unfold room; omega)
  have r2 : ((d.syn.length + d.tail.length) * 1 ≤ room) = True := eq_true (by unfold room; omega)
  have r3 : (d.syn.length ≤ room) = True := eq_true (by unfold room; omega)
  have r4 : (d.syn.length + d.tail.length ≤ room) = True := eq_true (by unfold room; omega)
  simp -implicitDefEqProofs only [go_sem, seval, Dev.cells, okEs_bT', r1, r2, r3, r4, bT_take_self]
  refine ends_mk [1] ?_ ?_
  · simp -implicitDefEqProofs only [go_sem, seval, bT_append]
  · simp -implicitDefEqProofs only [go_sem, seval, List.length_append]
theorem Dev.up3 (d : Dev) : (d.check = 8 ∧ d.bad = true ∧ d.upE = 8) ∨ (d.check = 0 ∧ d.down = true ∧ d.upE = 20) ∨ (d.check = 0 ∧ d.down = false ∧ d.upE = 0) := by
  unfold Dev.check Dev.upE
  cases d.bad <;> cases h : d.down <;> simp
theorem Dev.ok_of {d : Dev} (h : d.check = 0) : 0 ≤ d.cap ∧ d.cap ≤ 20000 ∧ (d.syn.length : Int) + d.tail.length ≤ d.cap := by
  unfold Dev.check Dev.bad at h
  split at h
  · omega
  · rename_i hb
    simp only [Bool.or_eq_true, Bool.and_eq_true, decide_eq_true_eq, not_or] at hb
    omega
def zeroD : Dev := ⟨[], [], 0, false⟩
theorem zeroD_cells : zeroD.cells = [.sl [], .sl [], .i .i64 0, .b false] := rfl
def opR (p : Dev × Int) : List (T × Bool) := [(.agg p.1.cells, true), (.i .i64 p.2, true)]
def orE (d : Dev) (p : Dev × Int) : Dev × Int := if d.upE = 0 then p else (zeroD, d.upE)
def Dev.all (d : Dev) : List (BitVec 8) := d.syn ++ d.tail
def newD (n : Int) : Dev × Int := if n < 0 then (zeroD, 2) else if 20000 < n then (zeroD, 2) else (⟨[], [], n, false⟩, 0)
def Dev.app (d : Dev) (b : List (BitVec 8)) : Dev × Int := orE d (if (d.syn.length : Int) + d.tail.length + b.length ≤ d.cap then (⟨d.syn, d.tail ++ b, d.cap, false⟩, 0) else (zeroD, 18))
def Dev.sync (d : Dev) : Dev × Int := orE d (⟨d.all, [], d.cap, false⟩, 0)
def Dev.trunc (d : Dev) (n : Int) : Dev × Int := orE d (if 0 ≤ n ∧ n ≤ d.all.length then (⟨d.syn.take n.toNat, d.tail.take (n.toNat - d.syn.length), d.cap, false⟩, 0) else (zeroD, 2))
def Dev.drop (d : Dev) (n : Int) : Dev × Int := orE d (if 0 ≤ n ∧ n ≤ d.syn.length then (⟨d.syn.drop n.toNat, d.tail, d.cap, false⟩, 0) else (zeroD, 2))
def Dev.crash (d : Dev) (n : Int) : Dev × Int := orE d (if 0 ≤ n ∧ n ≤ d.tail.length then (⟨d.syn ++ d.tail.take n.toNat, [], d.cap, true⟩, 0) else (zeroD, 2))
def Dev.start (d : Dev) : Dev × Int := if d.check = 0 then (if d.down = true then (⟨d.syn, [], d.cap, false⟩, 0) else (zeroD, 36)) else (zeroD, d.check)
def Dev.read (d : Dev) (a n : Int) : List (T × Bool) := if d.upE = 0 then (if 0 ≤ a ∧ 0 ≤ n ∧ a + n ≤ d.all.length then [(.sl (bT ((d.all.drop a.toNat).take n.toNat)), true), (.i .i64 0, true)] else [(.sl [], true), (.i .i64 2, true)]) else [(.sl [], true), (.i .i64 d.upE, true)]
def Dev.size (d : Dev) : List (T × Bool) := if d.check = 0 then [(.i .i64 d.all.length, true), (.i .i64 0, true)] else [(.i .i64 0, true), (.i .i64 d.check, true)]
theorem s_disk_New (n : Int) : Spec Try.prog 26 [.i .i64 n] [] (resV ((opR (newD n)).map AV.ofT)) := by
  refine spec_k (hold mixed) b_disk_New (opR (newD n)) ?_
  by_cases h1 : n < 0
  · simp -implicitDefEqProofs only [go_sem, seval, h1, opR, newD, zeroD_cells]
  · by_cases h2 : 20000 < n
    · simp -implicitDefEqProofs only [go_sem, seval, h1, h2, opR, newD, zeroD_cells, gt_iff_lt]
    · simp -implicitDefEqProofs only [go_sem, seval, h1, h2, opR, newD, Dev.cells, gt_iff_lt]
      try rfl
theorem s_disk_Start (d : Dev) (hd : d.small) : Spec Try.prog 59 [.agg d.cells] [] (resV ((opR d.start).map AV.ofT)) := by
  refine spec_k (hold mixed) b_disk_Start (opR d.start) ?_
  rcases d.up3 with ⟨hc, hn, hu⟩ | ⟨hc, hn, hu⟩ | ⟨hc, hn, hu⟩ <;> simp -implicitDefEqProofs only [go_sem, seval, Dev.cells] <;> refine call_k (s_disk_Check d hd) ?_ (by simp -implicitDefEqProofs only [go_sem, seval, Dev.cells]) <;> simp -implicitDefEqProofs only [go_sem, seval, sk, hc, hn]
  · simp -implicitDefEqProofs only [go_sem, seval, sk, opR, Dev.start, hc, zeroD_cells]
  · refine call_k (s_disk_made_nl d d.syn (by obtain ⟨a1, a2⟩ := hd; omega)) ?_ (by simp -implicitDefEqProofs only [go_sem, seval, Dev.cells, hn])
    simp -implicitDefEqProofs only [go_sem, seval, sk, opR, Dev.start, hc, hn, Dev.cells]
  · simp -implicitDefEqProofs only [go_sem, seval, sk, opR, Dev.start, hc, hn, zeroD_cells]
theorem s_disk_Sync (d : Dev) (hd : d.small) : Spec Try.prog 62 [.agg d.cells] [] (resV ((opR d.sync).map AV.ofT)) := by
  refine spec_k (hold mixed) b_disk_Sync (opR d.sync) ?_
  rcases d.up3 with ⟨hc, hn, hu⟩ | ⟨hc, hn, hu⟩ | ⟨hc, hn, hu⟩ <;> simp -implicitDefEqProofs only [go_sem, seval, Dev.cells] <;> refine call_k (s_disk_up d hd) ?_ (by simp -implicitDefEqProofs only [go_sem, seval, Dev.cells]) <;> simp -implicitDefEqProofs only [go_sem, seval, sk, hu]
  · simp -implicitDefEqProofs only [go_sem, seval, sk, opR, Dev.sync, orE, hu, zeroD_cells]
  · simp -implicitDefEqProofs only [go_sem, seval, sk, opR, Dev.sync, orE, hu, zeroD_cells]
  · have hl : catL [d.syn, d.tail] = d.all.length := by simp [catL, Dev.all]
    have hl2 : d.all.length ≤ 200000 := by obtain ⟨a1, a2⟩ := hd; simp [Dev.all]; omega
    refine call_d (s_slices_Concat [d.syn, d.tail] (by simp) (by omega)) ?_ (by simp -implicitDefEqProofs only [go_sem, seval, Dev.cells, catE, List.map])
    have hf : [d.syn, d.tail].flatten = d.all := by simp [Dev.all]
    rw [hf, hl]
    simp -implicitDefEqProofs only [go_sem, seval]
    refine call_d (s_disk_made_nl d d.all (by omega)) ?_ (by simp -implicitDefEqProofs only [go_sem, seval, Dev.cells, bT_take_self])
    simp -implicitDefEqProofs only [go_sem, seval, sk, opR, Dev.sync, orE, hu, Dev.cells]
theorem s_disk_Append (d : Dev) (b : List (BitVec 8)) (hd : d.small) (hb : b.length ≤ 100000) : Spec Try.prog 75 [.agg d.cells, .sl (bT b)] [] (resV ((opR (d.app b)).map AV.ofT)) := by
  refine spec_k (hold mixed) b_disk_Append (opR (d.app b)) ?_
  rcases d.up3 with ⟨hc, hn, hu⟩ | ⟨hc, hn, hu⟩ | ⟨hc, hn, hu⟩ <;> simp -implicitDefEqProofs only [go_sem, seval, Dev.cells] <;> refine call_k (s_disk_up d hd) ?_ (by simp -implicitDefEqProofs only [go_sem, seval, Dev.cells]) <;> simp -implicitDefEqProofs only [go_sem, seval, sk, hu]
  · simp -implicitDefEqProofs only [go_sem, seval, sk, opR, Dev.app, orE, hu, zeroD_cells]
  · simp -implicitDefEqProofs only [go_sem, seval, sk, opR, Dev.app, orE, hu, zeroD_cells]
  · obtain ⟨k1, k2, k3⟩ := d.ok_of hc
    have s1 : d.syn.length ≤ 100000 := hd.1
    have s2 : d.tail.length ≤ 100000 := hd.2
    have w1 : IntKind.i64.wrap (d.cap - (d.syn.length : Int)) = d.cap - d.syn.length := wrap_i64_id (by omega) (by omega)
    have w2 : IntKind.i64.wrap (d.cap - (d.syn.length : Int) - (d.tail.length : Int)) = d.cap - d.syn.length - d.tail.length := wrap_i64_id (by omega) (by omega)
    by_cases hl : (d.syn.length : Int) + d.tail.length + b.length ≤ d.cap
    · have e1 : ((b.length : Int) > d.cap - d.syn.length - d.tail.length) = False := eq_false (by omega)
      have ev : d.app b = (⟨d.syn, d.tail ++ b, d.cap, false⟩, 0) := by simp [Dev.app, orE, hu, hl]
      have hl : catL [d.tail, b] = (d.tail ++ b).length := by simp [catL]
      have hl2 : (d.tail ++ b).length ≤ 200000 := by rw [List.length_append]; omega
      rw [ev]
      simp -implicitDefEqProofs only [go_sem, seval, w1, w2, e1]
      refine call_d (s_slices_Concat [d.tail, b] (by simp) (by omega)) ?_ (by simp -implicitDefEqProofs only [go_sem, seval, Dev.cells, catE, List.map])
      have hf : [d.tail, b].flatten = d.tail ++ b := by simp
      rw [hf, hl]
      simp -implicitDefEqProofs only [go_sem, seval]
      refine call_d (s_disk_made d d.syn (d.tail ++ b) (by omega) (by omega)) ?_ (by simp -implicitDefEqProofs only [go_sem, seval, Dev.cells, bT_take_self])
      simp -implicitDefEqProofs only [go_sem, seval, sk, opR, Dev.cells]
    · have e1 : ((b.length : Int) > d.cap - d.syn.length - d.tail.length) = True := eq_true (by omega)
      have ev : d.app b = (zeroD, 18) := by simp [Dev.app, orE, hu, hl]
      rw [ev]
      simp -implicitDefEqProofs only [go_sem, seval, sk, w1, w2, e1, opR, zeroD_cells]
theorem s_disk_Truncate (d : Dev) (n : Int) (hd : d.small) (h0 : -9223372036854775808 ≤ n) (h1 : n < 9223372036854775808) : Spec Try.prog 61 [.agg d.cells, .i .i64 n] [] (resV ((opR (d.trunc n)).map AV.ofT)) := by
  refine spec_k (hold mixed) b_disk_Truncate (opR (d.trunc n)) ?_
  rcases d.up3 with ⟨hc, hn, hu⟩ | ⟨hc, hn, hu⟩ | ⟨hc, hn, hu⟩ <;> simp -implicitDefEqProofs only [go_sem, seval, Dev.cells] <;> refine call_k (s_disk_up d hd) ?_ (by simp -implicitDefEqProofs only [go_sem, seval, Dev.cells]) <;> simp -implicitDefEqProofs only [go_sem, seval, sk, hu]
  · simp -implicitDefEqProofs only [go_sem, seval, sk, opR, Dev.trunc, orE, hu, zeroD_cells]
  · simp -implicitDefEqProofs only [go_sem, seval, sk, opR, Dev.trunc, orE, hu, zeroD_cells]
  · obtain ⟨k1, k2, k3⟩ := d.ok_of hc
    have s1 : d.syn.length ≤ 100000 := hd.1
    have s2 : d.tail.length ≤ 100000 := hd.2
    have hal : (d.all.length : Int) = d.syn.length + d.tail.length := by simp [Dev.all]
    by_cases c0 : n < 0
    · have ev : d.trunc n = (zeroD, 2) := by simp [Dev.trunc, orE, hu]; omega
      rw [ev]
      simp -implicitDefEqProofs only [go_sem, seval, sk, c0, opR, zeroD_cells]
    · obtain ⟨m, rfl⟩ : ∃ m : Nat, n = m := ⟨n.toNat, by omega⟩
      have hw : IntKind.i64.wrap ((m : Int) - (d.syn.length : Int)) = m - d.syn.length := wrap_i64_id (by omega) (by omega)
      by_cases c1 : (m : Int) - d.syn.length > d.tail.length
      · have ev : d.trunc m = (zeroD, 2) := by simp [Dev.trunc, orE, hu, Dev.all]; omega
        rw [ev]
        simp -implicitDefEqProofs only [go_sem, seval, sk, c0, c1, hw, opR, zeroD_cells]
      · by_cases c2 : m ≤ d.syn.length
        · have ev : d.trunc m = (⟨d.syn.take m, [], d.cap, false⟩, 0) := by
            have h3 : 0 ≤ (m : Int) ∧ (m : Int) ≤ d.all.length := by omega
            have h4 : m - d.syn.length = 0 := by omega
            simp [Dev.trunc, orE, hu, h3, h4]
          have e2 : ((m : Int) - d.syn.length ≤ 0) = True := eq_true (by omega)
          have e3 : ((m : Int) ≤ d.syn.length) = True := eq_true (by omega)
          have e4 : ((m : Int) - ((0 : Nat) : Int)).toNat = m := by omega
          rw [ev]
          simp -implicitDefEqProofs only [go_sem, seval, sk, c0, c1, e2, e3, e4, hw, bT_takeN, Int.sub_zero, Int.toNat_natCast]
          refine ⟨.inl trivial, call_d (s_disk_made_nl d (d.syn.take m) (by rw [List.length_take]; omega)) ?_ (by simp -implicitDefEqProofs only [go_sem, seval, Dev.cells])⟩
          simp -implicitDefEqProofs only [go_sem, seval, sk, opR, Dev.cells]
        · obtain ⟨k, rfl⟩ : ∃ k : Nat, m = d.syn.length + k := ⟨m - d.syn.length, by omega⟩
          have ev : d.trunc (d.syn.length + k : Nat) = (⟨d.syn, d.tail.take k, d.cap, false⟩, 0) := by
            have h3 : 0 ≤ ((d.syn.length + k : Nat) : Int) ∧ ((d.syn.length + k : Nat) : Int) ≤ d.all.length := by omega
            have h4 : List.take (d.syn.length + k) d.syn = d.syn := List.take_of_length_le (by omega)
            simp only [Dev.trunc, orE, hu, h3, if_true, and_self, Int.toNat_natCast, h4, Nat.add_sub_cancel_left]
          have e2 : (((d.syn.length + k : Nat) : Int) - d.syn.length ≤ 0) = False := eq_false (by omega)
          have e3 : ((d.syn.length + k : Nat) : Int) - d.syn.length = k := by omega
          have e4 : ((k : Int) - ((0 : Nat) : Int)).toNat = k := by omega
          have e5 : ((k : Int) > d.tail.length) = False := eq_false (by omega)
          have e6 : ((k : Int) ≤ 0) = False := eq_false (by omega)
          have e7 : ((k : Int) ≤ d.tail.length) = True := eq_true (by omega)
          have c0' : (((d.syn.length + k : Nat) : Int) < 0) = False := eq_false (by omega)
          have hk : IntKind.i64.wrap (k : Int) = k := wrap_i64_id (by omega) (by omega)
          have e5' : ((d.tail.length : Int) < k) = False := eq_false (by omega)
          rw [ev]
          simp -implicitDefEqProofs only [go_sem, seval, sk, c0', hk, e3, e4, e5, e5', e6, e7, bT_takeN, Int.sub_zero, Int.toNat_natCast]
          refine ⟨.inl trivial, call_d (s_disk_made d d.syn (d.tail.take k) (by omega) (by rw [List.length_take]; omega)) ?_ (by simp -implicitDefEqProofs only [go_sem, seval, Dev.cells])⟩
          simp -implicitDefEqProofs only [go_sem, seval, sk, opR, Dev.cells]
theorem s_disk_Drop (d : Dev) (n : Int) (hd : d.small) (h0 : -9223372036854775808 ≤ n) (h1 : n < 9223372036854775808) : Spec Try.prog 69 [.agg d.cells, .i .i64 n] [] (resV ((opR (d.drop n)).map AV.ofT)) := by
  refine spec_k (hold mixed) b_disk_Drop (opR (d.drop n)) ?_
  rcases d.up3 with ⟨hc, hn, hu⟩ | ⟨hc, hn, hu⟩ | ⟨hc, hn, hu⟩ <;> simp -implicitDefEqProofs only [go_sem, seval, Dev.cells] <;> refine call_k (s_disk_up d hd) ?_ (by simp -implicitDefEqProofs only [go_sem, seval, Dev.cells]) <;> simp -implicitDefEqProofs only [go_sem, seval, sk, hu]
  · simp -implicitDefEqProofs only [go_sem, seval, sk, opR, Dev.drop, orE, hu, zeroD_cells]
  · simp -implicitDefEqProofs only [go_sem, seval, sk, opR, Dev.drop, orE, hu, zeroD_cells]
  · obtain ⟨k1, k2, k3⟩ := d.ok_of hc
    have s1 : d.syn.length ≤ 100000 := hd.1
    have s2 : d.tail.length ≤ 100000 := hd.2
    by_cases c0 : n < 0
    · have ev : d.drop n = (zeroD, 2) := by simp [Dev.drop, orE, hu]; omega
      rw [ev]
      simp -implicitDefEqProofs only [go_sem, seval, sk, c0, opR, zeroD_cells]
    · obtain ⟨m, rfl⟩ : ∃ m : Nat, n = m := ⟨n.toNat, by omega⟩
      by_cases c1 : (m : Int) > d.syn.length
      · have ev : d.drop m = (zeroD, 2) := by simp [Dev.drop, orE, hu]; omega
        rw [ev]
        simp -implicitDefEqProofs only [go_sem, seval, sk, c0, c1, opR, zeroD_cells]
      · have ev : d.drop m = (⟨d.syn.drop m, d.tail, d.cap, false⟩, 0) := by
          have h3 : m ≤ d.syn.length := by omega
          simp [Dev.drop, orE, hu, h3]
        rw [ev]
        simp -implicitDefEqProofs only [go_sem, seval, sk, c0, c1, bT_rest _ _ (show m ≤ d.syn.length by omega)]
        refine ⟨⟨by omega, .inr (okEs_bT _)⟩, call_d (s_disk_made d (d.syn.drop m) d.tail (by rw [List.length_drop]; omega) (by omega)) ?_ (by simp -implicitDefEqProofs only [go_sem, seval, Dev.cells])⟩
        simp -implicitDefEqProofs only [go_sem, seval, sk, opR, Dev.cells]
theorem s_disk_Crash (d : Dev) (n : Int) (hd : d.small) (h0 : -9223372036854775808 ≤ n) (h1 : n < 9223372036854775808) : Spec Try.prog 52 [.agg d.cells, .i .i64 n] [] (resV ((opR (d.crash n)).map AV.ofT)) := by
  refine spec_k (hold mixed) b_disk_Crash (opR (d.crash n)) ?_
  rcases d.up3 with ⟨hc, hn, hu⟩ | ⟨hc, hn, hu⟩ | ⟨hc, hn, hu⟩ <;> simp -implicitDefEqProofs only [go_sem, seval, Dev.cells] <;> refine call_k (s_disk_up d hd) ?_ (by simp -implicitDefEqProofs only [go_sem, seval, Dev.cells]) <;> simp -implicitDefEqProofs only [go_sem, seval, sk, hu]
  · simp -implicitDefEqProofs only [go_sem, seval, sk, opR, Dev.crash, orE, hu, zeroD_cells]
  · simp -implicitDefEqProofs only [go_sem, seval, sk, opR, Dev.crash, orE, hu, zeroD_cells]
  · obtain ⟨k1, k2, k3⟩ := d.ok_of hc
    have s1 : d.syn.length ≤ 100000 := hd.1
    have s2 : d.tail.length ≤ 100000 := hd.2
    by_cases c0 : n < 0
    · have ev : d.crash n = (zeroD, 2) := by simp [Dev.crash, orE, hu]; omega
      rw [ev]
      simp -implicitDefEqProofs only [go_sem, seval, sk, c0, opR, zeroD_cells]
    · obtain ⟨m, rfl⟩ : ∃ m : Nat, n = m := ⟨n.toNat, by omega⟩
      by_cases c1 : (m : Int) > d.tail.length
      · have ev : d.crash m = (zeroD, 2) := by simp [Dev.crash, orE, hu]; omega
        rw [ev]
        simp -implicitDefEqProofs only [go_sem, seval, sk, c0, c1, opR, zeroD_cells]
      · have ev : d.crash m = (⟨d.syn ++ d.tail.take m, [], d.cap, true⟩, 0) := by
          have h3 : m ≤ d.tail.length := by omega
          simp [Dev.crash, orE, hu, h3]
        have e4 : ((m : Int) - ((0 : Nat) : Int)).toNat = m := by omega
        have hl : catL [d.syn, d.tail.take m] = (d.syn ++ d.tail.take m).length := by simp [catL]
        have hl2 : (d.syn ++ d.tail.take m).length ≤ 200000 := by rw [List.length_append, List.length_take]; omega
        have hf : [d.syn, d.tail.take m].flatten = d.syn ++ d.tail.take m := by simp
        rw [ev]
        simp -implicitDefEqProofs only [go_sem, seval, sk, c0, c1, e4, bT_takeN, Int.sub_zero, Int.toNat_natCast]
        refine ⟨⟨by omega, .inl trivial⟩, call_d (s_slices_Concat [d.syn, d.tail.take m] (by simp) (by omega)) ?_ (by simp -implicitDefEqProofs only [go_sem, seval, Dev.cells, catE, List.map])⟩
        rw [hf, hl]
        simp -implicitDefEqProofs only [go_sem, seval]
        refine call_d (s_disk_made_nl d (d.syn ++ d.tail.take m) (by omega)) ?_ (by simp -implicitDefEqProofs only [go_sem, seval, Dev.cells, bT_take_self])
        simp -implicitDefEqProofs only [go_sem, seval, sk, opR, Dev.cells]
def Dev.sz (d : Dev) : Int × Int := if d.check = 0 then (d.all.length, 0) else (0, d.check)
theorem Dev.size_eq (d : Dev) : d.size = [(.i .i64 d.sz.1, true), (.i .i64 d.sz.2, true)] := by
  unfold Dev.size Dev.sz
  split <;> rfl
def Dev.rd (d : Dev) (a n : Int) : List (BitVec 8) × Int := if d.upE = 0 then (if 0 ≤ a ∧ 0 ≤ n ∧ a + n ≤ d.all.length then ((d.all.drop a.toNat).take n.toNat, 0) else ([], 2)) else ([], d.upE)
theorem Dev.read_eq (d : Dev) (a n : Int) : d.read a n = [(.sl (bT (d.rd a n).1), true), (.i .i64 (d.rd a n).2, true)] := by
  unfold Dev.read Dev.rd
  split
  · split <;> rfl
  · rfl
attribute [go_sem] opR Dev.cells Dev.size_eq Dev.read_eq
theorem orE_small {d : Dev} {p : Dev × Int} (h : d.check = 0 → p.1.small) : (orE d p).1.small := by
  unfold orE
  split
  · refine h ?_
    rcases d.up3 with ⟨hc, hn, hu⟩ | ⟨hc, hn, hu⟩ | ⟨hc, hn, hu⟩ <;> omega
  · exact ⟨Nat.zero_le _, Nat.zero_le _⟩
theorem zeroD_small : zeroD.small := ⟨Nat.zero_le _, Nat.zero_le _⟩
theorem app_small (d : Dev) (b : List (BitVec 8)) : (d.app b).1.small := orE_small fun h => by
  have := d.ok_of h
  split
  · exact ⟨by show d.syn.length ≤ _; omega, by show (d.tail ++ b).length ≤ _; rw [List.length_append]; omega⟩
  · exact zeroD_small
theorem sync_small (d : Dev) : (d.sync).1.small := orE_small fun h => by
  have := d.ok_of h
  exact ⟨by show (d.syn ++ d.tail).length ≤ _; rw [List.length_append]; omega, Nat.zero_le _⟩
theorem trunc_small (d : Dev) (n : Int) : (d.trunc n).1.small := orE_small fun h => by
  have := d.ok_of h
  split
  · exact ⟨by show (List.take _ _).length ≤ _; rw [List.length_take]; omega, by show (List.take _ _).length ≤ _; rw [List.length_take]; omega⟩
  · exact zeroD_small
theorem drop_small (d : Dev) (n : Int) : (d.drop n).1.small := orE_small fun h => by
  have := d.ok_of h
  split
  · exact ⟨by show (List.drop _ _).length ≤ _; rw [List.length_drop]; omega, by show d.tail.length ≤ _; omega⟩
  · exact zeroD_small
theorem crash_small (d : Dev) (n : Int) : (d.crash n).1.small := orE_small fun h => by
  have := d.ok_of h
  split
  · exact ⟨by show (d.syn ++ List.take _ _).length ≤ _; rw [List.length_append, List.length_take]; omega, Nat.zero_le _⟩
  · exact zeroD_small
theorem start_small (d : Dev) : (d.start).1.small := by
  unfold Dev.start
  split
  · rename_i h
    have := d.ok_of h
    split
    · exact ⟨by show d.syn.length ≤ _; omega, Nat.zero_le _⟩
    · exact zeroD_small
  · exact zeroD_small
theorem check_of {d : Dev} (h0 : 0 ≤ d.cap) (h1 : d.cap ≤ 20000) (h2 : (d.syn.length : Int) + d.tail.length ≤ d.cap) (h3 : d.down = true → d.tail = []) : d.check = 0 := by
  have hb : d.bad = false := by
    unfold Dev.bad
    rw [decide_eq_false (by omega), decide_eq_false (by omega), decide_eq_false (by omega)]
    cases hd : d.down
    · rfl
    · rw [h3 hd]; rfl
  unfold Dev.check
  rw [hb]
  rfl
theorem upE_of {d : Dev} (h : d.check = 0) (hd : d.down = false) : d.upE = 0 := by
  rcases d.up3 with ⟨hc, hn, hu⟩ | ⟨hc, hn, hu⟩ | ⟨hc, hn, hu⟩
  · omega
  · rw [hd] at hn; cases hn
  · exact hu
theorem orE_zero {d : Dev} {p : Dev × Int} (h : (orE d p).2 = 0) : d.check = 0 ∧ d.upE = 0 ∧ orE d p = p := by
  unfold orE at h ⊢
  split at h
  · rename_i hu
    rcases d.up3 with ⟨hc, hn, hu'⟩ | ⟨hc, hn, hu'⟩ | ⟨hc, hn, hu'⟩
    · omega
    · omega
    · exact ⟨hc, hu, if_pos hu⟩
  · rename_i hu
    exact absurd h hu
theorem app_check {d : Dev} {b : List (BitVec 8)} (h : (d.app b).2 = 0) : (d.app b).1.check = 0 := by
  obtain ⟨hc, hu, e⟩ := orE_zero h
  obtain ⟨k1, k2, k3⟩ := d.ok_of hc
  unfold Dev.app at h ⊢
  rw [e] at h ⊢
  split at h
  · rename_i hl
    rw [if_pos hl]
    exact check_of k1 k2 (by show (d.syn.length : Int) + ((d.tail ++ b).length : Nat) ≤ d.cap; rw [List.length_append]; omega) (fun h => by cases h)
  · cases h
theorem sync_check {d : Dev} (h : (d.sync).2 = 0) : (d.sync).1.check = 0 := by
  obtain ⟨hc, hu, e⟩ := orE_zero h
  obtain ⟨k1, k2, k3⟩ := d.ok_of hc
  unfold Dev.sync
  rw [e]
  exact check_of k1 k2 (by show ((d.syn ++ d.tail).length : Int) + (([] : List (BitVec 8)).length : Nat) ≤ d.cap; rw [List.length_append]; simp; omega) (fun _ => rfl)
theorem trunc_check {d : Dev} {n : Int} (h : (d.trunc n).2 = 0) : (d.trunc n).1.check = 0 := by
  obtain ⟨hc, hu, e⟩ := orE_zero h
  obtain ⟨k1, k2, k3⟩ := d.ok_of hc
  unfold Dev.trunc at h ⊢
  rw [e] at h ⊢
  split at h
  · rename_i hl
    rw [if_pos hl]
    exact check_of k1 k2 (by show ((d.syn.take _).length : Int) + ((d.tail.take _).length : Nat) ≤ d.cap; rw [List.length_take, List.length_take]; omega) (fun h => by cases h)
  · cases h
theorem crash_check {d : Dev} {n : Int} (h : (d.crash n).2 = 0) : (d.crash n).1.check = 0 := by
  obtain ⟨hc, hu, e⟩ := orE_zero h
  obtain ⟨k1, k2, k3⟩ := d.ok_of hc
  unfold Dev.crash at h ⊢
  rw [e] at h ⊢
  split at h
  · rename_i hl
    rw [if_pos hl]
    exact check_of k1 k2 (by show ((d.syn ++ d.tail.take _).length : Int) + (([] : List (BitVec 8)).length : Nat) ≤ d.cap; rw [List.length_append, List.length_take]; simp; omega) (fun _ => rfl)
  · cases h
theorem start_check {d : Dev} (h : (d.start).2 = 0) : (d.start).1.check = 0 := by
  unfold Dev.start at h ⊢
  split at h
  · rename_i hc
    obtain ⟨k1, k2, k3⟩ := d.ok_of hc
    rw [if_pos hc]
    split at h
    · rename_i hd
      rw [if_pos hd]
      exact check_of k1 k2 (by show (d.syn.length : Int) + (([] : List (BitVec 8)).length : Nat) ≤ d.cap; simp; omega) (fun h => by cases h)
    · cases h
  · rename_i hc
    exact absurd h hc
end Go.Proofs.Ytlfpafdkegnkoaa.Pm
