/- Texts of this proof in one file: PmQj, PmEa, PmEb, PmEc, PmEd, PmEe, PmEf. No law of Go's is stated here. -/
import Derived.Test.YtlfpafdkegnkoaaPmMd
import Derived.Test.YtlfpafdkegnkoaaPmMc
import Derived.Test.YtlfpafdkegnkoaaPmMg
import Derived.Test.YtlfpafdkegnkoaaPmMi
import Derived.Test.YtlfpafdkegnkoaaPmMk
import Derived.Test.YtlfpafdkegnkoaaPmMe
set_option linter.all false
set_option maxRecDepth 100000
namespace Go.Proofs.Ytlfpafdkegnkoaa.Pm
open Go Go.RowKit
def c_journal_New : C := (.seq (.seq (.reg ([⟨some 2, .alloc 34, none⟩, ⟨some 3, .assign (.const (.int .i64 0)), none⟩])) (.keep [0, 2])) (.seq (.seq (.reg ([⟨some 10, .move (.tmp 0), none⟩, ⟨some 11, .call { callee := .value (.func 25), args := #[(.tmp 10)], argTypes := #[3] }, none⟩, ⟨some 9, .move (.tmp 11), none⟩, ⟨some 12, .extract (.tmp 9) 0, none⟩, ⟨some 13, .extract (.tmp 9) 1, none⟩, ⟨some 4, .alloc 29, none⟩, ⟨none, .store 29 (.tmp 4) (.tmp 12), none⟩, ⟨some 5, .assign (.tmp 13), none⟩])) (.keep [0, 2, 4, 5])) (.seq (.seq (.seq (.reg ([⟨some 14, .move (.tmp 5), none⟩, ⟨some 15, .binOp .neq 35 (.tmp 14) (.const (.int .i64 0)) 35, none⟩])) (.keep [0, 2, 4, 5, 15])) (.cond (.tmp 15) (.seq (.seq (.reg ([⟨some 16, .build 34 #[], none⟩, ⟨some 17, .move (.tmp 5), none⟩, ⟨none, .store 34 (.tmp 2) (.tmp 16), none⟩, ⟨some 3, .assign (.tmp 17), none⟩])) (.keep [2, 3])) .ret) .skip)) (.seq (.seq (.reg ([⟨some 19, .move (.tmp 0), none⟩, ⟨some 20, .call { callee := .value (.func 26), args := #[(.tmp 19)], argTypes := #[3] }, none⟩, ⟨some 18, .move (.tmp 20), none⟩, ⟨some 21, .extract (.tmp 18) 0, none⟩, ⟨some 22, .extract (.tmp 18) 1, none⟩, ⟨some 6, .alloc 26, none⟩, ⟨none, .store 26 (.tmp 6) (.tmp 21), none⟩, ⟨some 7, .assign (.tmp 22), none⟩])) (.keep [2, 4, 6])) (.seq (.seq (.reg ([⟨some 24, .load 26 (.tmp 6), none⟩, ⟨some 25, .call { callee := .value (.func 27), args := #[(.tmp 24), (.const (.int .i64 0))], argTypes := #[26, 3] }, none⟩, ⟨some 23, .move (.tmp 25), none⟩, ⟨some 26, .extract (.tmp 23) 0, none⟩, ⟨some 27, .extract (.tmp 23) 1, none⟩, ⟨some 8, .alloc 31, none⟩, ⟨none, .store 31 (.tmp 8) (.tmp 26), none⟩, ⟨some 5, .assign (.tmp 27), none⟩])) (.keep [2, 4, 5, 8])) (.seq (.seq (.reg ([⟨some 28, .load 29 (.tmp 4), none⟩, ⟨some 29, .load 31 (.tmp 8), none⟩, ⟨some 30, .build 34 #[(0, (.tmp 28)), (1, (.tmp 29))], none⟩, ⟨some 31, .move (.tmp 5), none⟩, ⟨none, .store 34 (.tmp 2) (.tmp 30), none⟩, ⟨some 3, .assign (.tmp 31), none⟩])) (.keep [2, 3])) .ret))))))
attribute [go_sem ↓] c_journal_New
def h_journal_New : List Hint := [⟨[], [0, 2], []⟩, ⟨[], [0, 2, 4, 5], []⟩, ⟨[], [0, 2, 4, 5, 15], []⟩, ⟨[], [2, 3], []⟩, ⟨[], [2, 4, 6], []⟩, ⟨[], [2, 4, 5, 8], []⟩, ⟨[], [2, 3], []⟩]
theorem b_journal_New : Body Try.prog 6 [] h_journal_New c_journal_New 32 [.cell 2 34, .tmp 3] := body_of Try.func6 (by kernel_rfl) (by kernel_rfl) (by kernel_rfl) (by kernel_rfl)
def c_journal_Sync : C := (.seq (.seq (.reg ([⟨some 1, .box 34 (.tmp 0), none⟩, ⟨some 2, .alloc 34, none⟩, ⟨some 3, .assign (.const (.int .i64 0)), none⟩])) (.keep [1, 2])) (.seq (.seq (.seq (.reg ([⟨some 7, .load 34 (.tmp 1), none⟩, ⟨some 8, .call { callee := .value (.func 23), args := #[(.tmp 7)], argTypes := #[34] }, none⟩, ⟨some 4, .assign (.tmp 8), none⟩])) (.keep [1, 2, 4])) (.seq (.seq (.reg ([⟨some 9, .move (.tmp 4), none⟩, ⟨some 10, .binOp .neq 35 (.tmp 9) (.const (.int .i64 0)) 35, none⟩])) (.keep [1, 2, 4, 10])) (.cond (.tmp 10) (.seq (.seq (.reg ([⟨some 11, .build 34 #[], none⟩, ⟨some 12, .move (.tmp 4), none⟩, ⟨none, .store 34 (.tmp 2) (.tmp 11), none⟩, ⟨some 3, .assign (.tmp 12), none⟩])) (.keep [2, 3])) .ret) .skip))) (.seq (.seq (.reg ([⟨some 14, .fieldAddr 34 (.tmp 1) 1, none⟩, ⟨some 15, .load 31 (.tmp 14), none⟩, ⟨some 16, .call { callee := .value (.func 28), args := #[(.tmp 15)], argTypes := #[31] }, none⟩, ⟨some 13, .move (.tmp 16), none⟩, ⟨some 17, .extract (.tmp 13) 0, none⟩, ⟨some 18, .extract (.tmp 13) 1, none⟩, ⟨some 5, .alloc 31, none⟩, ⟨none, .store 31 (.tmp 5) (.tmp 17), none⟩, ⟨some 6, .assign (.tmp 18), none⟩])) (.keep [1, 2, 5, 6])) (.seq (.seq (.draw ([⟨⟨some 19, .fieldAddr 34 (.tmp 1) 0, none⟩, []⟩, ⟨⟨some 20, .load 29 (.tmp 19), none⟩, []⟩, ⟨⟨some 21, .call { callee := .value (.func 29), args := #[(.tmp 20)], argTypes := #[29] }, none⟩, []⟩, ⟨⟨some 22, .load 31 (.tmp 5), none⟩, [0, 1, 2]⟩, ⟨⟨some 23, .fieldAddr 34 (.tmp 1) 2, none⟩, [0, 1, 2, 3]⟩, ⟨⟨some 24, .load 32 (.tmp 23), none⟩, [0, 1, 2, 3]⟩, ⟨⟨some 25, .build 34 #[(0, (.tmp 21)), (1, (.tmp 22)), (2, (.tmp 24))], none⟩, []⟩, ⟨⟨some 26, .move (.tmp 6), none⟩, [0, 1, 2, 3, 4, 5, 6]⟩, ⟨⟨none, .store 34 (.tmp 2) (.tmp 25), none⟩, [7]⟩, ⟨⟨some 3, .assign (.tmp 26), none⟩, []⟩])) (.keep [2, 3])) .ret))))
attribute [go_sem ↓] c_journal_Sync
def h_journal_Sync : List Hint := [⟨[], [1, 2], []⟩, ⟨[], [1, 2, 4], []⟩, ⟨[], [1, 2, 4, 10], []⟩, ⟨[], [2, 3], []⟩, ⟨[], [1, 2, 5, 6], []⟩, ⟨[], [2, 3], []⟩]
theorem b_journal_Sync : Body Try.prog 7 [] h_journal_Sync c_journal_Sync 27 [.cell 2 34, .tmp 3] := body_of Try.func7 (by kernel_rfl) (by kernel_rfl) (by kernel_rfl) (by kernel_rfl)
def c_journal_Save : C := (.seq (.seq (.reg ([⟨some 1, .box 34 (.tmp 0), none⟩, ⟨some 2, .alloc 34, none⟩, ⟨some 3, .assign (.const (.int .i64 0)), none⟩])) (.keep [1, 2])) (.seq (.seq (.seq (.reg ([⟨some 10, .load 34 (.tmp 1), none⟩, ⟨some 11, .call { callee := .value (.func 23), args := #[(.tmp 10)], argTypes := #[34] }, none⟩, ⟨some 4, .assign (.tmp 11), none⟩])) (.keep [1, 2, 4])) (.seq (.seq (.reg ([⟨some 12, .move (.tmp 4), none⟩, ⟨some 13, .binOp .neq 35 (.tmp 12) (.const (.int .i64 0)) 35, none⟩])) (.keep [1, 2, 4, 13])) (.cond (.tmp 13) (.seq (.seq (.reg ([⟨some 14, .build 34 #[], none⟩, ⟨some 15, .move (.tmp 4), none⟩, ⟨none, .store 34 (.tmp 2) (.tmp 14), none⟩, ⟨some 3, .assign (.tmp 15), none⟩])) (.keep [2, 3])) .ret) .skip))) (.seq (.seq (.draw ([⟨⟨some 17, .fieldAddr 34 (.tmp 1) 0, none⟩, []⟩, ⟨⟨some 18, .load 29 (.tmp 17), none⟩, []⟩, ⟨⟨some 19, .load 34 (.tmp 1), none⟩, [0, 1]⟩, ⟨⟨some 20, .call { callee := .value (.func 31), args := #[(.tmp 19)], argTypes := #[34] }, none⟩, [0, 1]⟩, ⟨⟨some 21, .call { callee := .value (.func 30), args := #[(.tmp 18), (.tmp 20)], argTypes := #[29, 24] }, none⟩, []⟩, ⟨⟨some 16, .move (.tmp 21), none⟩, []⟩, ⟨⟨some 22, .extract (.tmp 16) 0, none⟩, []⟩, ⟨⟨some 23, .extract (.tmp 16) 1, none⟩, [6]⟩, ⟨⟨some 24, .extract (.tmp 16) 2, none⟩, [6, 7]⟩, ⟨⟨some 5, .alloc 29, none⟩, [0, 1, 2, 3, 4, 5, 6, 7, 8]⟩, ⟨⟨none, .store 29 (.tmp 5) (.tmp 22), none⟩, [7, 8]⟩, ⟨⟨some 6, .assign (.tmp 23), none⟩, [8]⟩, ⟨⟨some 7, .assign (.tmp 24), none⟩, []⟩])) (.keep [1, 2, 5, 7])) (.seq (.seq (.seq (.reg ([⟨some 25, .move (.tmp 7), none⟩, ⟨some 26, .binOp .neq 35 (.tmp 25) (.const (.int .i64 0)) 35, none⟩])) (.keep [1, 2, 5, 7, 26])) (.cond (.tmp 26) (.seq (.seq (.reg ([⟨some 27, .build 34 #[], none⟩, ⟨some 28, .move (.tmp 7), none⟩, ⟨none, .store 34 (.tmp 2) (.tmp 27), none⟩, ⟨some 3, .assign (.tmp 28), none⟩])) (.keep [2, 3])) .ret) .skip)) (.seq (.seq (.reg ([⟨some 30, .fieldAddr 34 (.tmp 1) 1, none⟩, ⟨some 31, .load 31 (.tmp 30), none⟩, ⟨some 32, .call { callee := .value (.func 28), args := #[(.tmp 31)], argTypes := #[31] }, none⟩, ⟨some 29, .move (.tmp 32), none⟩, ⟨some 33, .extract (.tmp 29) 0, none⟩, ⟨some 34, .extract (.tmp 29) 1, none⟩, ⟨some 8, .alloc 31, none⟩, ⟨none, .store 31 (.tmp 8) (.tmp 33), none⟩, ⟨some 9, .assign (.tmp 34), none⟩])) (.keep [1, 2, 5, 8])) (.seq (.seq (.reg ([⟨some 36, .load 31 (.tmp 8), none⟩, ⟨some 37, .fieldAddr 31 (.tmp 8) 2, none⟩, ⟨some 38, .load 3 (.tmp 37), none⟩, ⟨some 39, .call { callee := .value (.func 32), args := #[(.tmp 36), (.tmp 38)], argTypes := #[31, 3] }, none⟩, ⟨some 35, .move (.tmp 39), none⟩, ⟨some 40, .extract (.tmp 35) 0, none⟩, ⟨some 41, .extract (.tmp 35) 1, none⟩, ⟨none, .store 31 (.tmp 8) (.tmp 40), none⟩, ⟨some 7, .assign (.tmp 41), none⟩])) (.keep [1, 2, 5, 7, 8])) (.seq (.seq (.reg ([⟨some 42, .load 29 (.tmp 5), none⟩, ⟨some 43, .load 31 (.tmp 8), none⟩, ⟨some 44, .fieldAddr 34 (.tmp 1) 2, none⟩, ⟨some 45, .load 32 (.tmp 44), none⟩, ⟨some 46, .build 34 #[(0, (.tmp 42)), (1, (.tmp 43)), (2, (.tmp 45))], none⟩, ⟨some 47, .move (.tmp 7), none⟩, ⟨none, .store 34 (.tmp 2) (.tmp 46), none⟩, ⟨some 3, .assign (.tmp 47), none⟩])) (.keep [2, 3])) .ret)))))))
attribute [go_sem ↓] c_journal_Save
def h_journal_Save : List Hint := [⟨[], [1, 2], []⟩, ⟨[], [1, 2, 4], []⟩, ⟨[], [1, 2, 4, 13], []⟩, ⟨[], [2, 3], []⟩, ⟨[], [1, 2, 5, 7], []⟩, ⟨[], [1, 2, 5, 7, 26], []⟩, ⟨[], [2, 3], []⟩, ⟨[], [1, 2, 5, 8], []⟩, ⟨[], [1, 2, 5, 7, 8], []⟩, ⟨[], [2, 3], []⟩]
theorem b_journal_Save : Body Try.prog 8 [] h_journal_Save c_journal_Save 48 [.cell 2 34, .tmp 3] := body_of Try.func8 (by kernel_rfl) (by kernel_rfl) (by kernel_rfl) (by kernel_rfl)
def c_ref06_Valid : C := (.seq (.seq (.reg ([⟨some 1, .box 40 (.tmp 0), none⟩, ⟨some 2, .assign (.const (.bool false)), none⟩])) (.keep [1])) (.seq (.seq (.reg ([⟨some 3, .fieldAddr 40 (.tmp 1) 0, none⟩, ⟨some 4, .load 3 (.tmp 3), none⟩, ⟨some 5, .binOp .geq 3 (.tmp 4) (.const (.int .i64 0)) 3, none⟩, ⟨some 6, .move (.tmp 5), none⟩, ⟨some 7, .fieldAddr 40 (.tmp 1) 0, some (6, true)⟩, ⟨some 8, .load 3 (.tmp 7), some (6, true)⟩, ⟨some 9, .binOp .lss 3 (.tmp 8) (.const (.int .i64 8)) 3, some (6, true)⟩, ⟨some 10, .pick (.tmp 6) (.tmp 9) (.const (.bool false)), none⟩, ⟨some 11, .move (.tmp 10), none⟩, ⟨some 12, .fieldAddr 40 (.tmp 1) 1, some (11, true)⟩, ⟨some 13, .load 3 (.tmp 12), some (11, true)⟩, ⟨some 14, .binOp .geq 3 (.tmp 13) (.const (.int .i64 (-1000000))) 3, some (11, true)⟩, ⟨some 15, .pick (.tmp 11) (.tmp 14) (.const (.bool false)), none⟩, ⟨some 16, .move (.tmp 15), none⟩, ⟨some 17, .fieldAddr 40 (.tmp 1) 1, some (16, true)⟩, ⟨some 18, .load 3 (.tmp 17), some (16, true)⟩, ⟨some 19, .binOp .leq 3 (.tmp 18) (.const (.int .i64 1000000)) 3, some (16, true)⟩, ⟨some 20, .pick (.tmp 16) (.tmp 19) (.const (.bool false)), none⟩, ⟨some 2, .assign (.tmp 20), none⟩])) (.keep [2])) .ret))
attribute [go_sem ↓] c_ref06_Valid
def h_ref06_Valid : List Hint := [⟨[], [1], []⟩, ⟨[], [2], []⟩]
theorem b_ref06_Valid : Body Try.prog 9 [] h_ref06_Valid c_ref06_Valid 21 [.tmp 2] := body_of Try.func9 (by kernel_rfl) (by kernel_rfl) (by kernel_rfl) (by kernel_rfl)
def c_ref06_Written : C := (.seq (.seq (.reg ([⟨some 1, .box 40 (.tmp 0), none⟩, ⟨some 2, .assign (.const (.slice none 0 0)), none⟩])) (.keep [1])) (.seq (.seq (.draw ([⟨⟨some 3, .fieldAddr 40 (.tmp 1) 0, none⟩, []⟩, ⟨⟨some 4, .load 3 (.tmp 3), none⟩, []⟩, ⟨⟨some 5, .convert 3 5 (.tmp 4), none⟩, []⟩, ⟨⟨some 6, .buildSlice 24 1 #[(0, (.tmp 5))], none⟩, []⟩, ⟨⟨some 7, .fieldAddr 40 (.tmp 1) 1, none⟩, [0, 1, 2, 3]⟩, ⟨⟨some 8, .load 3 (.tmp 7), none⟩, [0, 1, 2, 3]⟩, ⟨⟨some 9, .call { callee := .value (.func 33), args := #[(.tmp 8)], argTypes := #[3] }, none⟩, [0, 1, 2, 3]⟩, ⟨⟨some 10, .call { callee := .builtin .append, args := #[(.tmp 6), (.tmp 9)], argTypes := #[24, 24] }, none⟩, []⟩, ⟨⟨some 2, .assign (.tmp 10), none⟩, []⟩])) (.keep [2])) .ret))
attribute [go_sem ↓] c_ref06_Written
def h_ref06_Written : List Hint := [⟨[], [1], []⟩, ⟨[], [2], []⟩]
theorem b_ref06_Written : Body Try.prog 10 [] h_ref06_Written c_ref06_Written 11 [.tmp 2] := body_of Try.func10 (by kernel_rfl) (by kernel_rfl) (by kernel_rfl) (by kernel_rfl)
def c_journal_Do : C := (.seq (.seq (.reg ([⟨some 2, .box 34 (.tmp 0), none⟩, ⟨some 3, .box 40 (.tmp 1), none⟩, ⟨some 4, .alloc 34, none⟩, ⟨some 5, .assign (.const (.int .i64 0)), none⟩, ⟨some 6, .assign (.const (.int .i64 0)), none⟩])) (.keep [2, 3, 4])) (.seq (.seq (.seq (.reg ([⟨some 12, .load 34 (.tmp 2), none⟩, ⟨some 13, .call { callee := .value (.func 23), args := #[(.tmp 12)], argTypes := #[34] }, none⟩, ⟨some 7, .assign (.tmp 13), none⟩])) (.keep [2, 3, 4, 7])) (.seq (.seq (.reg ([⟨some 14, .move (.tmp 7), none⟩, ⟨some 15, .binOp .neq 35 (.tmp 14) (.const (.int .i64 0)) 35, none⟩])) (.keep [2, 3, 4, 7, 15])) (.cond (.tmp 15) (.seq (.seq (.reg ([⟨some 16, .build 34 #[], none⟩, ⟨some 17, .move (.tmp 7), none⟩, ⟨none, .store 34 (.tmp 4) (.tmp 16), none⟩, ⟨some 5, .assign (.const (.int .i64 0)), none⟩, ⟨some 6, .assign (.tmp 17), none⟩])) (.keep [4, 5, 6])) .ret) .skip))) (.seq (.seq (.reg ([⟨some 19, .fieldAddr 34 (.tmp 2) 2, none⟩, ⟨some 20, .load 32 (.tmp 19), none⟩, ⟨some 21, .load 40 (.tmp 3), none⟩, ⟨some 22, .buildSlice 22 1 #[(0, (.tmp 21))], none⟩, ⟨some 23, .call { callee := .value (.func 21), args := #[(.tmp 20), (.tmp 22)], argTypes := #[32, 22] }, none⟩, ⟨some 18, .move (.tmp 23), none⟩, ⟨some 24, .extract (.tmp 18) 0, none⟩, ⟨some 25, .extract (.tmp 18) 1, none⟩, ⟨some 8, .alloc 32, none⟩, ⟨none, .store 32 (.tmp 8) (.tmp 24), none⟩, ⟨some 9, .assign (.tmp 25), none⟩])) (.keep [2, 3, 4, 8, 9])) (.seq (.seq (.seq (.reg ([⟨some 26, .move (.tmp 9), none⟩, ⟨some 27, .binOp .neq 35 (.tmp 26) (.const (.int .i64 0)) 35, none⟩])) (.keep [2, 3, 4, 8, 9, 27])) (.cond (.tmp 27) (.seq (.seq (.reg ([⟨some 28, .build 34 #[], none⟩, ⟨some 29, .move (.tmp 9), none⟩, ⟨none, .store 34 (.tmp 4) (.tmp 28), none⟩, ⟨some 5, .assign (.const (.int .i64 0)), none⟩, ⟨some 6, .assign (.tmp 29), none⟩])) (.keep [4, 5, 6])) .ret) .skip)) (.seq (.seq (.draw ([⟨⟨some 31, .fieldAddr 34 (.tmp 2) 1, none⟩, []⟩, ⟨⟨some 32, .load 31 (.tmp 31), none⟩, []⟩, ⟨⟨some 33, .fieldAddr 40 (.tmp 3) 0, none⟩, [0, 1]⟩, ⟨⟨some 34, .load 3 (.tmp 33), none⟩, [0, 1]⟩, ⟨⟨some 35, .convert 3 5 (.tmp 34), none⟩, [0, 1]⟩, ⟨⟨some 36, .buildSlice 24 1 #[(0, (.tmp 35))], none⟩, [0, 1]⟩, ⟨⟨some 37, .fieldAddr 40 (.tmp 3) 1, none⟩, [0, 1, 2, 3, 4, 5]⟩, ⟨⟨some 38, .load 3 (.tmp 37), none⟩, [0, 1, 2, 3, 4, 5]⟩, ⟨⟨some 39, .buildSlice 121 1 #[(0, (.tmp 38))], none⟩, [0, 1, 2, 3, 4, 5]⟩, ⟨⟨some 40, .call { callee := .value (.func 38), args := #[(.tmp 36), (.tmp 39)], argTypes := #[24, 121] }, none⟩, [0, 1]⟩, ⟨⟨some 41, .call { callee := .value (.func 37), args := #[(.tmp 32), (.tmp 40)], argTypes := #[31, 24] }, none⟩, []⟩, ⟨⟨some 30, .move (.tmp 41), none⟩, []⟩, ⟨⟨some 42, .extract (.tmp 30) 0, none⟩, []⟩, ⟨⟨some 43, .extract (.tmp 30) 1, none⟩, [12]⟩, ⟨⟨some 44, .extract (.tmp 30) 2, none⟩, [12, 13]⟩, ⟨⟨some 10, .alloc 31, none⟩, [0, 1, 2, 3, 4, 5, 6, 7, 8, 9, 10, 11, 12, 13, 14]⟩, ⟨⟨none, .store 31 (.tmp 10) (.tmp 42), none⟩, [13, 14]⟩, ⟨⟨some 11, .assign (.tmp 43), none⟩, [14]⟩, ⟨⟨some 9, .assign (.tmp 44), none⟩, []⟩])) (.keep [2, 4, 8, 9, 10, 11])) (.seq (.seq (.seq (.reg ([⟨some 45, .move (.tmp 9), none⟩, ⟨some 46, .binOp .neq 35 (.tmp 45) (.const (.int .i64 0)) 35, none⟩])) (.keep [2, 4, 8, 9, 10, 11, 46])) (.cond (.tmp 46) (.seq (.seq (.reg ([⟨some 47, .build 34 #[], none⟩, ⟨some 48, .move (.tmp 9), none⟩, ⟨none, .store 34 (.tmp 4) (.tmp 47), none⟩, ⟨some 5, .assign (.const (.int .i64 0)), none⟩, ⟨some 6, .assign (.tmp 48), none⟩])) (.keep [4, 5, 6])) .ret) .skip)) (.seq (.seq (.draw ([⟨⟨some 49, .fieldAddr 34 (.tmp 2) 0, none⟩, []⟩, ⟨⟨some 50, .load 29 (.tmp 49), none⟩, []⟩, ⟨⟨some 51, .call { callee := .value (.func 29), args := #[(.tmp 50)], argTypes := #[29] }, none⟩, []⟩, ⟨⟨some 52, .load 31 (.tmp 10), none⟩, [0, 1, 2]⟩, ⟨⟨some 53, .load 32 (.tmp 8), none⟩, [0, 1, 2, 3]⟩, ⟨⟨some 54, .build 34 #[(0, (.tmp 51)), (1, (.tmp 52)), (2, (.tmp 53))], none⟩, []⟩, ⟨⟨some 55, .move (.tmp 11), none⟩, [0, 1, 2, 3, 4, 5]⟩, ⟨⟨none, .store 34 (.tmp 4) (.tmp 54), none⟩, [6]⟩, ⟨⟨some 5, .assign (.tmp 55), none⟩, []⟩, ⟨⟨some 6, .assign (.const (.int .i64 0)), none⟩, []⟩])) (.keep [4, 5, 6])) .ret)))))))
attribute [go_sem ↓] c_journal_Do
def h_journal_Do : List Hint := [⟨[], [2, 3, 4], []⟩, ⟨[], [2, 3, 4, 7], []⟩, ⟨[], [2, 3, 4, 7, 15], []⟩, ⟨[], [4, 5, 6], []⟩, ⟨[], [2, 3, 4, 8, 9], []⟩, ⟨[], [2, 3, 4, 8, 9, 27], []⟩, ⟨[], [4, 5, 6], []⟩, ⟨[], [2, 4, 8, 9, 10, 11], []⟩, ⟨[], [2, 4, 8, 9, 10, 11, 46], []⟩, ⟨[], [4, 5, 6], []⟩, ⟨[], [4, 5, 6], []⟩]
theorem b_journal_Do : Body Try.prog 13 [] h_journal_Do c_journal_Do 56 [.cell 4 34, .tmp 5, .tmp 6] := body_of Try.func13 (by kernel_rfl) (by kernel_rfl) (by kernel_rfl) (by kernel_rfl)
def c_journal_Apply : C := (.seq (.seq (.reg ([⟨some 2, .box 32 (.tmp 0), none⟩, ⟨some 4, .alloc 32, none⟩, ⟨some 5, .assign (.const (.int .i64 0)), none⟩])) (.keep [1, 2, 4])) (.seq (.seq (.seq (.reg ([⟨some 8, .load 32 (.tmp 2), none⟩, ⟨some 9, .call { callee := .value (.func 53), args := #[(.tmp 8)], argTypes := #[32] }, none⟩, ⟨some 10, .unOp .not 4 (.tmp 9), none⟩])) (.keep [1, 2, 4, 10])) (.cond (.tmp 10) (.seq (.seq (.reg ([⟨some 11, .build 32 #[], none⟩, ⟨none, .store 32 (.tmp 4) (.tmp 11), none⟩, ⟨some 5, .assign (.const (.int .i64 8)), none⟩])) (.keep [4, 5])) .ret) .skip)) (.seq (.seq (.seq (.reg ([⟨some 12, .move (.tmp 1), none⟩, ⟨some 13, .call { callee := .builtin .len, args := #[(.tmp 12)], argTypes := #[22] }, none⟩, ⟨some 14, .move (.const (.int .i64 0)), none⟩])) (.keep [2, 4, 12, 13, 14])) (.block 0 (.loop [] [2, 4, 12, 13, 14] (.seq (.seq (.reg ([⟨some 15, .binOp .lss 3 (.tmp 14) (.tmp 13) 3, none⟩])) (.keep [2, 4, 12, 13, 14, 15])) (.seq (.cond (.tmp 15) .skip (.exit 0)) (.seq (.block 1 (.seq (.seq (.reg ([⟨some 16, .indexAddr 22 (.tmp 12) (.tmp 14), none⟩, ⟨some 17, .load 40 (.tmp 16), none⟩, ⟨some 7, .alloc 40, none⟩, ⟨none, .store 40 (.tmp 7) (.tmp 17), none⟩])) (.keep [2, 4, 7, 12, 13, 14])) (.seq (.seq (.seq (.reg ([⟨some 18, .load 40 (.tmp 7), none⟩, ⟨some 19, .call { callee := .value (.func 54), args := #[(.tmp 18)], argTypes := #[40] }, none⟩, ⟨some 20, .unOp .not 4 (.tmp 19), none⟩])) (.keep [2, 4, 7, 12, 13, 14, 20])) (.cond (.tmp 20) (.seq (.seq (.reg ([⟨some 21, .build 32 #[], none⟩, ⟨none, .store 32 (.tmp 4) (.tmp 21), none⟩, ⟨some 5, .assign (.const (.int .i64 2)), none⟩])) (.keep [4, 5])) .ret) .skip)) (.seq (.seq (.draw ([⟨⟨some 22, .fieldAddr 40 (.tmp 7) 0, none⟩, []⟩, ⟨⟨some 23, .load 3 (.tmp 22), none⟩, []⟩, ⟨⟨some 24, .indexAddr 32 (.tmp 2) (.tmp 23), none⟩, []⟩, ⟨⟨some 25, .load 3 (.tmp 24), none⟩, []⟩, ⟨⟨some 26, .fieldAddr 40 (.tmp 7) 1, none⟩, [0, 1, 2, 3]⟩, ⟨⟨some 27, .load 3 (.tmp 26), none⟩, [0, 1, 2, 3]⟩, ⟨⟨some 28, .binOp .add 3 (.tmp 25) (.tmp 27) 3, none⟩, []⟩, ⟨⟨some 29, .indexAddr 32 (.tmp 2) (.tmp 23), none⟩, []⟩, ⟨⟨none, .store 3 (.tmp 29) (.tmp 28), none⟩, []⟩])) (.keep [2, 4, 12, 13, 14])) (.seq (.seq (.reg ([⟨some 30, .load 32 (.tmp 2), none⟩, ⟨some 31, .call { callee := .value (.func 53), args := #[(.tmp 30)], argTypes := #[32] }, none⟩, ⟨some 32, .unOp .not 4 (.tmp 31), none⟩])) (.keep [2, 4, 12, 13, 14, 32])) (.cond (.tmp 32) (.seq (.seq (.reg ([⟨some 33, .build 32 #[], none⟩, ⟨none, .store 32 (.tmp 4) (.tmp 33), none⟩, ⟨some 5, .assign (.const (.int .i64 16)), none⟩])) (.keep [4, 5])) .ret) .skip)))))) (.seq (.reg ([⟨some 34, .binOp .add 3 (.tmp 14) (.const (.int .i64 1)) 3, none⟩, ⟨some 14, .move (.tmp 34), none⟩])) (.keep [2, 4, 12, 13, 14])))))))) (.seq (.seq (.reg ([⟨some 35, .load 32 (.tmp 2), none⟩, ⟨none, .store 32 (.tmp 4) (.tmp 35), none⟩, ⟨some 5, .assign (.const (.int .i64 0)), none⟩])) (.keep [4, 5])) .ret))))
attribute [go_sem ↓] c_journal_Apply
def h_journal_Apply : List Hint := [⟨[], [1, 2, 4], []⟩, ⟨[], [1, 2, 4, 10], []⟩, ⟨[], [4, 5], []⟩, ⟨[], [2, 4, 12, 13, 14], []⟩, ⟨[], [2, 4, 12, 13, 14], []⟩, ⟨[], [2, 4, 12, 13, 14, 15], []⟩, ⟨[], [2, 4, 7, 12, 13, 14], []⟩, ⟨[], [2, 4, 7, 12, 13, 14, 20], []⟩, ⟨[], [4, 5], []⟩, ⟨[], [2, 4, 12, 13, 14], []⟩, ⟨[], [2, 4, 12, 13, 14, 32], []⟩, ⟨[], [4, 5], []⟩, ⟨[], [2, 4, 12, 13, 14], []⟩, ⟨[], [4, 5], []⟩]
theorem b_journal_Apply : Body Try.prog 21 [] h_journal_Apply c_journal_Apply 36 [.cell 4 32, .tmp 5] := body_of Try.func21 (by kernel_rfl) (by kernel_rfl) (by kernel_rfl) (by kernel_rfl)
def r_journal_Check_0 : List I := [⟨some 17, .binOp .neq 35 (.tmp 16) (.const (.int .i64 0)) 35, some (13, false)⟩, ⟨some 18, .pick (.tmp 13) (.const (.bool true)) (.tmp 17), none⟩]
@[go_sem ↓] def uq215 := @unI _ _ r_journal_Check_0.eq_1
def r_journal_Check_1 : List I := ⟨some 12, .binOp .neq 35 (.tmp 11) (.const (.int .i64 0)) 35, none⟩ :: ⟨some 13, .move (.tmp 12), none⟩ :: ⟨some 14, .fieldAddr 34 (.tmp 1) 1, some (13, false)⟩ :: ⟨some 15, .load 31 (.tmp 14), some (13, false)⟩ :: ⟨some 16, .call { callee := .value (.func 58), args := #[(.tmp 15)], argTypes := #[31] }, some (13, false)⟩ :: r_journal_Check_0
@[go_sem ↓] def uq216 := @unI _ _ r_journal_Check_1.eq_1
def kc165 : C := (.seq (.seq (.reg ([⟨some 2, .assign (.const (.int .i64 8)), none⟩])) (.keep [2])) .ret)
@[go_sem ↓] def uq217 := @unC _ _ kc165.eq_1
def kc166 : C := (.cond (.tmp 18) kc165 .skip)
@[go_sem ↓] def uq218 := @unC _ _ kc166.eq_1
def r_journal_Check_4 : List I := [⟨some 19, .move (.tmp 22), none⟩, ⟨some 23, .extract (.tmp 19) 0, none⟩, ⟨some 24, .extract (.tmp 19) 1, none⟩, ⟨some 25, .extract (.tmp 19) 2, none⟩, ⟨some 3, .assign (.tmp 23), none⟩, ⟨some 4, .assign (.tmp 24), none⟩, ⟨some 5, .assign (.tmp 25), none⟩]
@[go_sem ↓] def uq219 := @unI _ _ r_journal_Check_4.eq_1
def r_journal_Check_5 : List I := [⟨some 26, .move (.tmp 29), none⟩, ⟨some 30, .extract (.tmp 26) 0, none⟩, ⟨some 31, .extract (.tmp 26) 1, none⟩, ⟨some 32, .extract (.tmp 26) 2, none⟩, ⟨some 7, .alloc 32, none⟩, ⟨some 6, .assign (.tmp 30), none⟩, ⟨none, .store 32 (.tmp 7) (.tmp 31), none⟩, ⟨some 8, .assign (.tmp 32), none⟩]
@[go_sem ↓] def uq220 := @unI _ _ r_journal_Check_5.eq_1
def kc167 : C := (.seq (.seq (.reg ([⟨some 2, .assign (.const (.int .i64 8)), none⟩])) (.keep [2])) .ret)
@[go_sem ↓] def uq221 := @unC _ _ kc167.eq_1
def kc168 : C := (.cond (.tmp 56) kc167 .skip)
@[go_sem ↓] def uq222 := @unC _ _ kc168.eq_1
def r_journal_Check_8 : List I := [⟨some 57, .move (.tmp 62), none⟩, ⟨some 63, .extract (.tmp 57) 0, none⟩, ⟨some 64, .extract (.tmp 57) 1, none⟩, ⟨none, .store 32 (.tmp 7) (.tmp 63), none⟩, ⟨some 8, .assign (.tmp 64), none⟩]
@[go_sem ↓] def uq223 := @unI _ _ r_journal_Check_8.eq_1
def kc169 : C := (.seq (.seq (.reg ([⟨some 2, .assign (.const (.int .i64 8)), none⟩])) (.keep [2])) .ret)
@[go_sem ↓] def uq224 := @unC _ _ kc169.eq_1
def kc170 : C := (.cond (.tmp 72) kc169 .skip)
@[go_sem ↓] def uq225 := @unC _ _ kc170.eq_1
def kc171 : C := (.seq (.seq (.reg ([⟨some 65, .move (.tmp 8), none⟩, ⟨some 66, .unOp .not 4 (.tmp 65), none⟩, ⟨some 67, .move (.tmp 66), none⟩, ⟨some 68, .load 32 (.tmp 7), some (67, false)⟩, ⟨some 69, .fieldAddr 34 (.tmp 1) 2, some (67, false)⟩, ⟨some 70, .load 32 (.tmp 69), some (67, false)⟩, ⟨some 71, .binOp .neq 32 (.tmp 68) (.tmp 70) 32, some (67, false)⟩, ⟨some 72, .pick (.tmp 67) (.const (.bool true)) (.tmp 71), none⟩])) (.keep [72])) kc170)
@[go_sem ↓] def uq226 := @unC _ _ kc171.eq_1
def kc172 : C := (.seq (.seq (.reg ([⟨some 2, .assign (.const (.int .i64 0)), none⟩])) (.keep [2])) .ret)
@[go_sem ↓] def uq227 := @unC _ _ kc172.eq_1
def kc173 : C := (.seq (.seq (.seq (.reg (⟨some 58, .load 32 (.tmp 7), none⟩ :: ⟨some 59, .fieldAddr 34 (.tmp 1) 1, none⟩ :: ⟨some 60, .load 31 (.tmp 59), none⟩ :: ⟨some 61, .move (.tmp 6), none⟩ :: ⟨some 62, .call { callee := .value (.func 57), args := #[(.tmp 58), (.tmp 60), (.tmp 61)], argTypes := #[32, 31, 3] }, none⟩ :: r_journal_Check_8)) (.keep [1, 7, 8])) kc171) kc172)
@[go_sem ↓] def uq228 := @unC _ _ kc173.eq_1
def kc174 : C := (.seq (.seq (.seq (.reg ([⟨some 33, .move (.tmp 8), none⟩, ⟨some 34, .unOp .not 4 (.tmp 33), none⟩, ⟨some 35, .move (.tmp 34), none⟩, ⟨some 36, .move (.tmp 5), some (35, false)⟩, ⟨some 37, .binOp .eql 35 (.tmp 36) (.const (.int .i64 0)) 35, some (35, false)⟩, ⟨some 38, .move (.tmp 37), some (35, false)⟩, ⟨some 39, .fieldAddr 34 (.tmp 1) 0, some (38, true)⟩, ⟨some 40, .fieldAddr 29 (.tmp 39) 1, some (38, true)⟩, ⟨some 41, .load 3 (.tmp 40), some (38, true)⟩, ⟨some 42, .move (.tmp 3), some (38, true)⟩, ⟨some 43, .binOp .add 3 (.tmp 42) (.const (.int .i64 1)) 3, some (38, true)⟩, ⟨some 44, .binOp .neq 3 (.tmp 41) (.tmp 43) 3, some (38, true)⟩, ⟨some 45, .pick (.tmp 38) (.tmp 44) (.const (.bool false)), some (35, false)⟩, ⟨some 46, .pick (.tmp 35) (.const (.bool true)) (.tmp 45), none⟩, ⟨some 47, .move (.tmp 46), none⟩, ⟨some 48, .move (.tmp 5), some (47, false)⟩, ⟨some 49, .binOp .neq 35 (.tmp 48) (.const (.int .i64 0)) 35, some (47, false)⟩, ⟨some 50, .move (.tmp 49), some (47, false)⟩, ⟨some 51, .fieldAddr 34 (.tmp 1) 0, some (50, true)⟩, ⟨some 52, .fieldAddr 29 (.tmp 51) 1, some (50, true)⟩, ⟨some 53, .load 3 (.tmp 52), some (50, true)⟩, ⟨some 54, .binOp .neq 3 (.tmp 53) (.const (.int .i64 1)) 3, some (50, true)⟩, ⟨some 55, .pick (.tmp 50) (.tmp 54) (.const (.bool false)), some (47, false)⟩, ⟨some 56, .pick (.tmp 47) (.const (.bool true)) (.tmp 55), none⟩])) (.keep [1, 6, 7, 56])) kc168) kc173)
@[go_sem ↓] def uq229 := @unC _ _ kc174.eq_1
def kc175 : C := (.seq (.seq (.reg (⟨some 27, .fieldAddr 34 (.tmp 1) 0, none⟩ :: ⟨some 28, .load 29 (.tmp 27), none⟩ :: ⟨some 29, .call { callee := .value (.func 56), args := #[(.tmp 28)], argTypes := #[29] }, none⟩ :: r_journal_Check_5)) (.keep [1, 3, 5, 6, 7, 8])) kc174)
@[go_sem ↓] def uq230 := @unC _ _ kc175.eq_1
def kc176 : C := (.seq (.seq (.reg (⟨some 20, .fieldAddr 34 (.tmp 1) 0, none⟩ :: ⟨some 21, .load 29 (.tmp 20), none⟩ :: ⟨some 22, .call { callee := .value (.func 16), args := #[(.tmp 21)], argTypes := #[29] }, none⟩ :: r_journal_Check_4)) (.keep [1, 3, 5])) kc175)
@[go_sem ↓] def uq231 := @unC _ _ kc176.eq_1
def kc177 : C := (.seq (.seq (.seq (.reg (⟨some 9, .fieldAddr 34 (.tmp 1) 0, none⟩ :: ⟨some 10, .load 29 (.tmp 9), none⟩ :: ⟨some 11, .call { callee := .value (.func 43), args := #[(.tmp 10)], argTypes := #[29] }, none⟩ :: r_journal_Check_1)) (.keep [1, 18])) kc166) kc176)
@[go_sem ↓] def uq232 := @unC _ _ kc177.eq_1
def c_journal_Check : C := (.seq (.seq (.reg ([⟨some 1, .box 34 (.tmp 0), none⟩, ⟨some 2, .assign (.const (.int .i64 0)), none⟩])) (.keep [1])) kc177)
attribute [go_sem ↓] c_journal_Check
def h_journal_Check : List Hint := [⟨[], [1], []⟩, ⟨[], [1, 18], []⟩, ⟨[], [2], []⟩, ⟨[], [1, 3, 5], []⟩, ⟨[], [1, 3, 5, 6, 7, 8], []⟩, ⟨[], [1, 6, 7, 56], []⟩, ⟨[], [2], []⟩, ⟨[], [1, 7, 8], []⟩, ⟨[], [72], []⟩, ⟨[], [2], []⟩, ⟨[], [2], []⟩]
theorem b_journal_Check : Body Try.prog 23 [] h_journal_Check c_journal_Check 73 [.tmp 2] := body_of Try.func23 (by kernel_rfl) (by kernel_rfl) (by kernel_rfl) (by kernel_rfl)
def c_journal_twin : C := (.seq (.seq (.reg ([⟨some 1, .box 29 (.tmp 0), none⟩, ⟨some 2, .alloc 29, none⟩])) (.keep [1, 2])) (.seq (.seq (.seq (.reg ([⟨some 5, .fieldAddr 29 (.tmp 1) 0, none⟩, ⟨some 6, .load 27 (.tmp 5), none⟩, ⟨some 7, .move (.const (.int .i64 0)), none⟩])) (.keep [1, 2, 6, 7])) (.block 0 (.loop [] [1, 2, 6, 7] (.seq (.seq (.reg ([⟨some 8, .binOp .lss 3 (.tmp 7) (.const (.int .i64 2)) 3, none⟩])) (.keep [1, 2, 6, 7, 8])) (.seq (.cond (.tmp 8) .skip (.exit 0)) (.seq (.block 1 (.seq (.seq (.reg ([⟨some 9, .move (.tmp 7), none⟩, ⟨some 10, .index 27 (.tmp 6) (.tmp 7), none⟩, ⟨some 4, .alloc 26, none⟩, ⟨some 3, .assign (.tmp 9), none⟩, ⟨none, .store 26 (.tmp 4) (.tmp 10), none⟩])) (.keep [1, 2, 3, 4, 6, 7])) (.seq (.draw ([⟨⟨some 11, .move (.tmp 3), none⟩, []⟩, ⟨⟨some 12, .move (.tmp 3), none⟩, [0]⟩, ⟨⟨some 13, .fieldAddr 26 (.tmp 4) 0, none⟩, [0, 1]⟩, ⟨⟨some 14, .load 24 (.tmp 13), none⟩, [0, 1]⟩, ⟨⟨some 15, .call { callee := .value (.func 65), args := #[(.tmp 14)], argTypes := #[24] }, none⟩, [0, 1]⟩, ⟨⟨some 16, .fieldAddr 26 (.tmp 4) 1, none⟩, [0, 1, 2, 3, 4]⟩, ⟨⟨some 17, .load 24 (.tmp 16), none⟩, [0, 1, 2, 3, 4]⟩, ⟨⟨some 18, .call { callee := .value (.func 65), args := #[(.tmp 17)], argTypes := #[24] }, none⟩, [0, 1]⟩, ⟨⟨some 19, .fieldAddr 29 (.tmp 1) 0, none⟩, [0, 1, 2, 3, 4, 5, 6, 7]⟩, ⟨⟨some 20, .indexAddr 27 (.tmp 19) (.tmp 11), none⟩, [1, 5, 6, 7]⟩, ⟨⟨some 21, .fieldAddr 26 (.tmp 20) 0, none⟩, [1, 5, 6, 7]⟩, ⟨⟨none, .store 24 (.tmp 21) (.tmp 15), none⟩, [1]⟩, ⟨⟨some 22, .fieldAddr 29 (.tmp 1) 0, none⟩, [0, 1, 2, 3, 4, 5, 6, 7, 8, 9, 10, 11]⟩, ⟨⟨some 23, .indexAddr 27 (.tmp 22) (.tmp 12), none⟩, []⟩, ⟨⟨some 24, .fieldAddr 26 (.tmp 23) 1, none⟩, []⟩, ⟨⟨none, .store 24 (.tmp 24) (.tmp 18), none⟩, []⟩])) (.keep [1, 2, 6, 7])))) (.seq (.reg ([⟨some 25, .binOp .add 3 (.tmp 7) (.const (.int .i64 1)) 3, none⟩, ⟨some 7, .move (.tmp 25), none⟩])) (.keep [1, 2, 6, 7])))))))) (.seq (.seq (.reg ([⟨some 26, .load 29 (.tmp 1), none⟩, ⟨none, .store 29 (.tmp 2) (.tmp 26), none⟩])) (.keep [2])) .ret)))
attribute [go_sem ↓] c_journal_twin
def h_journal_twin : List Hint := [⟨[], [1, 2], []⟩, ⟨[], [1, 2, 6, 7], []⟩, ⟨[], [1, 2, 6, 7], []⟩, ⟨[], [1, 2, 6, 7, 8], []⟩, ⟨[], [1, 2, 3, 4, 6, 7], []⟩, ⟨[], [1, 2, 6, 7], []⟩, ⟨[], [1, 2, 6, 7], []⟩, ⟨[], [2], []⟩]
theorem b_journal_twin : Body Try.prog 29 [] h_journal_twin c_journal_twin 27 [.cell 2 29] := body_of Try.func29 (by kernel_rfl) (by kernel_rfl) (by kernel_rfl) (by kernel_rfl)
def c_journal_point : C := (.seq (.seq (.reg ([⟨some 1, .box 34 (.tmp 0), none⟩, ⟨some 2, .assign (.const (.slice none 0 0)), none⟩])) (.keep [1])) (.seq (.seq (.draw ([⟨⟨some 3, .fieldAddr 34 (.tmp 1) 1, none⟩, []⟩, ⟨⟨some 4, .fieldAddr 31 (.tmp 3) 2, none⟩, []⟩, ⟨⟨some 5, .load 3 (.tmp 4), none⟩, []⟩, ⟨⟨some 6, .buildSlice 121 1 #[(0, (.tmp 5))], none⟩, []⟩, ⟨⟨some 7, .call { callee := .value (.func 38), args := #[(.const (.slice none 0 0)), (.tmp 6)], argTypes := #[24, 121] }, none⟩, []⟩, ⟨⟨some 8, .fieldAddr 34 (.tmp 1) 2, none⟩, [0, 1, 2, 3, 4]⟩, ⟨⟨some 9, .slice 32 (.tmp 8) none none none, none⟩, [0, 1, 2, 3, 4]⟩, ⟨⟨some 10, .call { callee := .value (.func 38), args := #[(.tmp 7), (.tmp 9)], argTypes := #[24, 121] }, none⟩, []⟩, ⟨⟨some 2, .assign (.tmp 10), none⟩, []⟩])) (.keep [2])) .ret))
attribute [go_sem ↓] c_journal_point
def h_journal_point : List Hint := [⟨[], [1], []⟩, ⟨[], [2], []⟩]
theorem b_journal_point : Body Try.prog 31 [] h_journal_point c_journal_point 11 [.tmp 2] := body_of Try.func31 (by kernel_rfl) (by kernel_rfl) (by kernel_rfl) (by kernel_rfl)
def c_ref06_eight : C := (.seq (.seq (.reg ([⟨some 2, .assign (.const (.slice none 0 0)), none⟩])) (.keep [0])) (.seq (.seq (.reg ([⟨some 3, .assign (.const (.slice none 0 0)), none⟩])) (.keep [0, 3])) (.seq (.seq (.reg ([⟨some 6, .move (.tmp 0), none⟩, ⟨some 7, .convert 3 124 (.tmp 6), none⟩, ⟨some 4, .assign (.tmp 7), none⟩])) (.keep [3, 4])) (.seq (.seq (.seq (.reg ([⟨some 5, .assign (.const (.int .i64 0)), none⟩])) (.keep [3, 4, 5])) (.block 0 (.loop [(3, 1)] [3, 4, 5] (.seq (.seq (.seq (.reg ([⟨some 8, .move (.tmp 5), none⟩, ⟨some 9, .binOp .lss 3 (.tmp 8) (.const (.int .i64 8)) 3, none⟩])) (.keep [3, 4, 5, 9])) (.cond (.tmp 9) .skip (.exit 0))) (.seq (.block 1 (.seq (.seq (.reg ([⟨some 12, .move (.tmp 3), none⟩, ⟨some 13, .move (.tmp 4), none⟩, ⟨some 14, .binOp .rem 124 (.tmp 13) (.const (.int .u64 256)) 124, none⟩, ⟨some 15, .convert 124 5 (.tmp 14), none⟩, ⟨some 16, .buildSlice 24 1 #[(0, (.tmp 15))], none⟩, ⟨some 17, .call { callee := .builtin .append, args := #[(.tmp 12), (.tmp 16)], argTypes := #[24, 24] }, none⟩, ⟨some 3, .assign (.tmp 17), none⟩])) (.keep [3, 4, 5])) (.seq (.reg ([⟨some 18, .move (.tmp 4), none⟩, ⟨some 19, .binOp .quo 124 (.tmp 18) (.const (.int .u64 256)) 124, none⟩, ⟨some 4, .assign (.tmp 19), none⟩])) (.keep [3, 4, 5])))) (.seq (.reg ([⟨some 10, .move (.tmp 5), none⟩, ⟨some 11, .binOp .add 3 (.tmp 10) (.const (.int .i64 1)) 3, none⟩, ⟨some 5, .assign (.tmp 11), none⟩])) (.keep [3, 4, 5]))))))) (.seq (.seq (.reg ([⟨some 20, .move (.tmp 3), none⟩, ⟨some 2, .assign (.tmp 20), none⟩])) (.keep [2])) .ret)))))
attribute [go_sem ↓] c_ref06_eight
def h_ref06_eight : List Hint := [⟨[], [0], []⟩, ⟨[], [0, 3], []⟩, ⟨[], [3, 4], []⟩, ⟨[], [3, 4, 5], []⟩, ⟨[(3, 1)], [3, 4, 5], []⟩, ⟨[], [3, 4, 5, 9], []⟩, ⟨[], [3, 4, 5], []⟩, ⟨[], [3, 4, 5], []⟩, ⟨[], [3, 4, 5], []⟩, ⟨[], [2], []⟩]
theorem b_ref06_eight : Body Try.prog 33 [] h_ref06_eight c_ref06_eight 21 [.tmp 2] := body_of Try.func33 (by kernel_rfl) (by kernel_rfl) (by kernel_rfl) (by kernel_rfl)
def c_journal_put : C := (.seq (.seq (.reg ([⟨some 4, .assign (.const (.slice none 0 0)), none⟩])) (.keep [0, 1])) (.seq (.seq (.seq (.reg ([⟨some 8, .move (.tmp 1), none⟩, ⟨some 9, .call { callee := .builtin .len, args := #[(.tmp 8)], argTypes := #[121] }, none⟩, ⟨some 10, .move (.const (.int .i64 0)), none⟩])) (.keep [0, 8, 9, 10])) (.block 0 (.loop [(0, 1)] [0, 8, 9, 10] (.seq (.seq (.reg ([⟨some 11, .binOp .lss 3 (.tmp 10) (.tmp 9) 3, none⟩])) (.keep [0, 8, 9, 10, 11])) (.seq (.cond (.tmp 11) .skip (.exit 0)) (.seq (.block 1 (.seq (.seq (.reg ([⟨some 12, .indexAddr 121 (.tmp 8) (.tmp 10), none⟩, ⟨some 13, .load 3 (.tmp 12), none⟩, ⟨some 6, .assign (.tmp 13), none⟩])) (.keep [0, 6, 8, 9, 10])) (.seq (.seq (.reg ([⟨some 14, .move (.const (.int .i64 0)), none⟩])) (.keep [0, 6, 8, 9, 10, 14])) (.block 2 (.loop [(0, 1)] [0, 6, 8, 9, 10, 14] (.seq (.seq (.reg ([⟨some 15, .binOp .lss 3 (.tmp 14) (.const (.int .i64 8)) 3, none⟩])) (.keep [0, 6, 8, 9, 10, 14, 15])) (.seq (.cond (.tmp 15) .skip (.exit 2)) (.seq (.block 3 (.seq (.seq (.reg ([⟨some 16, .move (.tmp 14), none⟩, ⟨some 7, .assign (.tmp 16), none⟩])) (.keep [0, 6, 7, 8, 9, 10, 14])) (.seq (.reg ([⟨some 17, .move (.tmp 0), none⟩, ⟨some 18, .move (.tmp 6), none⟩, ⟨some 19, .convert 3 124 (.tmp 18), none⟩, ⟨some 20, .move (.tmp 7), none⟩, ⟨some 21, .binOp .mul 3 (.const (.int .i64 8)) (.tmp 20) 3, none⟩, ⟨some 22, .binOp .shr 124 (.tmp 19) (.tmp 21) 3, none⟩, ⟨some 23, .convert 124 5 (.tmp 22), none⟩, ⟨some 24, .buildSlice 24 1 #[(0, (.tmp 23))], none⟩, ⟨some 25, .call { callee := .builtin .append, args := #[(.tmp 17), (.tmp 24)], argTypes := #[24, 24] }, none⟩, ⟨some 0, .assign (.tmp 25), none⟩])) (.keep [0, 6, 8, 9, 10, 14])))) (.seq (.reg ([⟨some 26, .binOp .add 3 (.tmp 14) (.const (.int .i64 1)) 3, none⟩, ⟨some 14, .move (.tmp 26), none⟩])) (.keep [0, 6, 8, 9, 10, 14])))))))))) (.seq (.reg ([⟨some 27, .binOp .add 3 (.tmp 10) (.const (.int .i64 1)) 3, none⟩, ⟨some 10, .move (.tmp 27), none⟩])) (.keep [0, 8, 9, 10])))))))) (.seq (.seq (.reg ([⟨some 28, .move (.tmp 0), none⟩, ⟨some 4, .assign (.tmp 28), none⟩])) (.keep [4])) .ret)))
attribute [go_sem ↓] c_journal_put
def h_journal_put : List Hint := [⟨[], [0, 1], []⟩, ⟨[], [0, 8, 9, 10], []⟩, ⟨[(0, 1)], [0, 8, 9, 10], []⟩, ⟨[], [0, 8, 9, 10, 11], []⟩, ⟨[], [0, 6, 8, 9, 10], []⟩, ⟨[], [0, 6, 8, 9, 10, 14], []⟩, ⟨[(0, 1)], [0, 6, 8, 9, 10, 14], []⟩, ⟨[], [0, 6, 8, 9, 10, 14, 15], []⟩, ⟨[], [0, 6, 7, 8, 9, 10, 14], []⟩, ⟨[], [0, 6, 8, 9, 10, 14], []⟩, ⟨[], [0, 6, 8, 9, 10, 14], []⟩, ⟨[], [0, 8, 9, 10], []⟩, ⟨[], [4], []⟩]
theorem b_journal_put : Body Try.prog 38 [] h_journal_put c_journal_put 29 [.tmp 4] := body_of Try.func38 (by kernel_rfl) (by kernel_rfl) (by kernel_rfl) (by kernel_rfl)
def c_journal_fine : C := (.seq (.seq (.reg ([⟨some 1, .box 32 (.tmp 0), none⟩, ⟨some 2, .assign (.const (.bool false)), none⟩])) (.keep [1])) (.seq (.seq (.reg ([⟨some 3, .slice 32 (.tmp 1) none none none, none⟩, ⟨some 4, .call { callee := .value (.func 79), args := #[(.tmp 3)], argTypes := #[121] }, none⟩, ⟨some 5, .binOp .geq 3 (.tmp 4) (.const (.int .i64 (-1000000000))) 3, none⟩, ⟨some 6, .move (.tmp 5), none⟩, ⟨some 7, .slice 32 (.tmp 1) none none none, some (6, true)⟩, ⟨some 8, .call { callee := .value (.func 80), args := #[(.tmp 7)], argTypes := #[121] }, some (6, true)⟩, ⟨some 9, .binOp .leq 3 (.tmp 8) (.const (.int .i64 1000000000)) 3, some (6, true)⟩, ⟨some 10, .pick (.tmp 6) (.tmp 9) (.const (.bool false)), none⟩, ⟨some 2, .assign (.tmp 10), none⟩])) (.keep [2])) .ret))
attribute [go_sem ↓] c_journal_fine
def h_journal_fine : List Hint := [⟨[], [1], []⟩, ⟨[], [2], []⟩]
theorem b_journal_fine : Body Try.prog 53 [] h_journal_fine c_journal_fine 11 [.tmp 2] := body_of Try.func53 (by kernel_rfl) (by kernel_rfl) (by kernel_rfl) (by kernel_rfl)
def c_journal_valid : C := (.seq (.seq (.reg ([⟨some 1, .box 40 (.tmp 0), none⟩, ⟨some 2, .assign (.const (.bool false)), none⟩])) (.keep [1])) (.seq (.seq (.reg ([⟨some 3, .fieldAddr 40 (.tmp 1) 0, none⟩, ⟨some 4, .load 3 (.tmp 3), none⟩, ⟨some 5, .binOp .geq 3 (.tmp 4) (.const (.int .i64 0)) 3, none⟩, ⟨some 6, .move (.tmp 5), none⟩, ⟨some 7, .fieldAddr 40 (.tmp 1) 0, some (6, true)⟩, ⟨some 8, .load 3 (.tmp 7), some (6, true)⟩, ⟨some 9, .binOp .lss 3 (.tmp 8) (.const (.int .i64 8)) 3, some (6, true)⟩, ⟨some 10, .pick (.tmp 6) (.tmp 9) (.const (.bool false)), none⟩, ⟨some 11, .move (.tmp 10), none⟩, ⟨some 12, .fieldAddr 40 (.tmp 1) 1, some (11, true)⟩, ⟨some 13, .load 3 (.tmp 12), some (11, true)⟩, ⟨some 14, .binOp .geq 3 (.tmp 13) (.const (.int .i64 (-1000000))) 3, some (11, true)⟩, ⟨some 15, .pick (.tmp 11) (.tmp 14) (.const (.bool false)), none⟩, ⟨some 16, .move (.tmp 15), none⟩, ⟨some 17, .fieldAddr 40 (.tmp 1) 1, some (16, true)⟩, ⟨some 18, .load 3 (.tmp 17), some (16, true)⟩, ⟨some 19, .binOp .leq 3 (.tmp 18) (.const (.int .i64 1000000)) 3, some (16, true)⟩, ⟨some 20, .pick (.tmp 16) (.tmp 19) (.const (.bool false)), none⟩, ⟨some 2, .assign (.tmp 20), none⟩])) (.keep [2])) .ret))
attribute [go_sem ↓] c_journal_valid
def h_journal_valid : List Hint := [⟨[], [1], []⟩, ⟨[], [2], []⟩]
theorem b_journal_valid : Body Try.prog 54 [] h_journal_valid c_journal_valid 21 [.tmp 2] := body_of Try.func54 (by kernel_rfl) (by kernel_rfl) (by kernel_rfl) (by kernel_rfl)
def c_journal_base : C := (.seq (.seq (.reg ([⟨some 1, .box 29 (.tmp 0), none⟩, ⟨some 2, .assign (.const (.int .i64 0)), none⟩, ⟨some 3, .alloc 32, none⟩, ⟨some 4, .assign (.const (.bool false)), none⟩])) (.keep [1, 3])) (.seq (.seq (.reg ([⟨some 10, .load 29 (.tmp 1), none⟩, ⟨some 11, .call { callee := .value (.func 16), args := #[(.tmp 10)], argTypes := #[29] }, none⟩, ⟨some 9, .move (.tmp 11), none⟩, ⟨some 12, .extract (.tmp 9) 0, none⟩, ⟨some 13, .extract (.tmp 9) 1, none⟩, ⟨some 14, .extract (.tmp 9) 2, none⟩, ⟨some 5, .assign (.tmp 12), none⟩, ⟨some 6, .assign (.tmp 13), none⟩, ⟨some 7, .assign (.tmp 14), none⟩])) (.keep [3, 6, 7])) (.seq (.seq (.seq (.reg ([⟨some 15, .move (.tmp 7), none⟩, ⟨some 16, .binOp .eql 35 (.tmp 15) (.const (.int .i64 6)) 35, none⟩])) (.keep [3, 6, 7, 16])) (.cond (.tmp 16) (.seq (.seq (.draw ([⟨⟨some 17, .load 32 (.tmp 3), none⟩, []⟩, ⟨⟨some 2, .assign (.const (.int .i64 0)), none⟩, [0]⟩, ⟨⟨none, .store 32 (.tmp 3) (.tmp 17), none⟩, []⟩, ⟨⟨some 4, .assign (.const (.bool true)), none⟩, []⟩])) (.keep [2, 3, 4])) .ret) .skip)) (.seq (.seq (.seq (.reg ([⟨some 18, .move (.tmp 7), none⟩, ⟨some 19, .binOp .neq 35 (.tmp 18) (.const (.int .i64 0)) 35, none⟩, ⟨some 20, .move (.tmp 19), none⟩, ⟨some 21, .move (.tmp 6), some (20, false)⟩, ⟨some 22, .call { callee := .builtin .len, args := #[(.tmp 21)], argTypes := #[24] }, some (20, false)⟩, ⟨some 23, .binOp .neq 3 (.tmp 22) (.const (.int .i64 72)) 3, some (20, false)⟩, ⟨some 24, .pick (.tmp 20) (.const (.bool true)) (.tmp 23), none⟩])) (.keep [3, 6, 24])) (.cond (.tmp 24) (.seq (.seq (.draw ([⟨⟨some 25, .load 32 (.tmp 3), none⟩, []⟩, ⟨⟨some 2, .assign (.const (.int .i64 0)), none⟩, [0]⟩, ⟨⟨none, .store 32 (.tmp 3) (.tmp 25), none⟩, []⟩, ⟨⟨some 4, .assign (.const (.bool false)), none⟩, []⟩])) (.keep [2, 3, 4])) .ret) .skip)) (.seq (.seq (.seq (.reg ([⟨some 26, .move (.const (.int .i64 0)), none⟩])) (.keep [3, 6, 26])) (.block 0 (.loop [] [3, 6, 26] (.seq (.seq (.reg ([⟨some 27, .binOp .lss 3 (.tmp 26) (.const (.int .i64 8)) 3, none⟩])) (.keep [3, 6, 26, 27])) (.seq (.cond (.tmp 27) .skip (.exit 0)) (.seq (.block 1 (.seq (.seq (.reg ([⟨some 28, .move (.tmp 26), none⟩, ⟨some 8, .assign (.tmp 28), none⟩])) (.keep [3, 6, 8, 26])) (.seq (.reg ([⟨some 29, .move (.tmp 8), none⟩, ⟨some 30, .move (.tmp 6), none⟩, ⟨some 31, .move (.tmp 8), none⟩, ⟨some 32, .binOp .add 3 (.tmp 31) (.const (.int .i64 1)) 3, none⟩, ⟨some 33, .call { callee := .value (.func 81), args := #[(.tmp 30), (.tmp 32)], argTypes := #[24, 3] }, none⟩, ⟨some 34, .indexAddr 32 (.tmp 3) (.tmp 29), none⟩, ⟨none, .store 3 (.tmp 34) (.tmp 33), none⟩])) (.keep [3, 6, 26])))) (.seq (.reg ([⟨some 35, .binOp .add 3 (.tmp 26) (.const (.int .i64 1)) 3, none⟩, ⟨some 26, .move (.tmp 35), none⟩])) (.keep [3, 6, 26])))))))) (.seq (.seq (.reg ([⟨some 36, .move (.tmp 6), none⟩, ⟨some 37, .call { callee := .value (.func 81), args := #[(.tmp 36), (.const (.int .i64 0))], argTypes := #[24, 3] }, none⟩, ⟨some 2, .assign (.tmp 37), none⟩])) (.keep [2, 3])) (.seq (.seq (.draw ([⟨⟨some 38, .move (.tmp 2), none⟩, []⟩, ⟨⟨some 39, .load 32 (.tmp 3), none⟩, [0]⟩, ⟨⟨some 40, .move (.tmp 2), none⟩, [0, 1]⟩, ⟨⟨some 41, .binOp .geq 3 (.tmp 40) (.const (.int .i64 0)) 3, none⟩, [0, 1]⟩, ⟨⟨some 42, .move (.tmp 41), none⟩, [0, 1]⟩, ⟨⟨some 43, .move (.tmp 2), some (42, true)⟩, [0, 1]⟩, ⟨⟨some 44, .binOp .leq 3 (.tmp 43) (.const (.int .i64 1000000000)) 3, some (42, true)⟩, [0, 1]⟩, ⟨⟨some 45, .pick (.tmp 42) (.tmp 44) (.const (.bool false)), none⟩, [0, 1]⟩, ⟨⟨some 46, .move (.tmp 45), none⟩, [0, 1]⟩, ⟨⟨some 47, .load 32 (.tmp 3), some (46, true)⟩, [0, 1]⟩, ⟨⟨some 48, .call { callee := .value (.func 53), args := #[(.tmp 47)], argTypes := #[32] }, some (46, true)⟩, [0, 1]⟩, ⟨⟨some 49, .pick (.tmp 46) (.tmp 48) (.const (.bool false)), none⟩, [0, 1]⟩, ⟨⟨some 2, .assign (.tmp 38), none⟩, [1, 11]⟩, ⟨⟨none, .store 32 (.tmp 3) (.tmp 39), none⟩, [11]⟩, ⟨⟨some 4, .assign (.tmp 49), none⟩, []⟩])) (.keep [2, 3, 4])) .ret)))))))
attribute [go_sem ↓] c_journal_base
def h_journal_base : List Hint := [⟨[], [1, 3], []⟩, ⟨[], [3, 6, 7], []⟩, ⟨[], [3, 6, 7, 16], []⟩, ⟨[], [2, 3, 4], []⟩, ⟨[], [3, 6, 24], []⟩, ⟨[], [2, 3, 4], []⟩, ⟨[], [3, 6, 26], []⟩, ⟨[], [3, 6, 26], []⟩, ⟨[], [3, 6, 26, 27], []⟩, ⟨[], [3, 6, 8, 26], []⟩, ⟨[], [3, 6, 26], []⟩, ⟨[], [3, 6, 26], []⟩, ⟨[], [2, 3], []⟩, ⟨[], [2, 3, 4], []⟩]
theorem b_journal_base : Body Try.prog 56 [] h_journal_base c_journal_base 50 [.tmp 2, .cell 3 32, .tmp 4] := body_of Try.func56 (by kernel_rfl) (by kernel_rfl) (by kernel_rfl) (by kernel_rfl)
def kc178 : C := (.seq (.seq (.reg ([⟨some 24, .load 32 (.tmp 3), none⟩, ⟨none, .store 32 (.tmp 6) (.tmp 24), none⟩, ⟨some 7, .assign (.const (.bool false)), none⟩])) (.keep [6, 7])) .ret)
@[go_sem ↓] def uq233 := @unC _ _ kc178.eq_1
def kc179 : C := (.cond (.tmp 23) kc178 .skip)
@[go_sem ↓] def uq234 := @unC _ _ kc179.eq_1
def r_journal_replay_2 : List I := [⟨some 25, .move (.tmp 28), none⟩, ⟨some 29, .extract (.tmp 25) 0, none⟩, ⟨some 30, .extract (.tmp 25) 1, none⟩, ⟨some 8, .assign (.tmp 29), none⟩, ⟨some 9, .assign (.tmp 30), none⟩]
@[go_sem ↓] def uq235 := @unI _ _ r_journal_replay_2.eq_1
def kc180 : C := (.seq (.seq (.reg ([⟨some 33, .load 32 (.tmp 3), none⟩, ⟨none, .store 32 (.tmp 6) (.tmp 33), none⟩, ⟨some 7, .assign (.const (.bool false)), none⟩])) (.keep [6, 7])) .ret)
@[go_sem ↓] def uq236 := @unC _ _ kc180.eq_1
def kc181 : C := (.cond (.tmp 32) kc180 .skip)
@[go_sem ↓] def uq237 := @unC _ _ kc181.eq_1
def kc182 : C := (.seq (.seq (.reg ([⟨some 44, .load 32 (.tmp 3), none⟩, ⟨none, .store 32 (.tmp 6) (.tmp 44), none⟩, ⟨some 7, .assign (.const (.bool false)), none⟩])) (.keep [6, 7])) .ret)
@[go_sem ↓] def uq238 := @unC _ _ kc182.eq_1
def kc183 : C := (.cond (.tmp 43) kc182 .skip)
@[go_sem ↓] def uq239 := @unC _ _ kc183.eq_1
def d_journal_replay_7 : List D := [⟨⟨some 45, .move (.tmp 58), none⟩, []⟩, ⟨⟨some 59, .extract (.tmp 45) 0, none⟩, []⟩, ⟨⟨some 60, .extract (.tmp 45) 1, none⟩, [14]⟩, ⟨⟨some 12, .alloc 32, none⟩, [0, 1, 2, 3, 4, 5, 6, 7, 8, 9, 10, 11, 12, 13, 14, 15]⟩, ⟨⟨none, .store 32 (.tmp 12) (.tmp 59), none⟩, [15]⟩, ⟨⟨some 13, .assign (.tmp 60), none⟩, []⟩]
@[go_sem ↓] def uq240 := @unD _ _ d_journal_replay_7.eq_1
def d_journal_replay_8 : List D := ⟨⟨some 56, .build 40 #[(0, (.tmp 51)), (1, (.tmp 55))], none⟩, [0]⟩ :: ⟨⟨some 57, .buildSlice 22 1 #[(0, (.tmp 56))], none⟩, [0]⟩ :: ⟨⟨some 58, .call { callee := .value (.func 21), args := #[(.tmp 46), (.tmp 57)], argTypes := #[32, 22] }, none⟩, []⟩ :: d_journal_replay_7
@[go_sem ↓] def uq241 := @unD _ _ d_journal_replay_8.eq_1
def kc184 : C := (.seq (.seq (.reg ([⟨some 63, .load 32 (.tmp 3), none⟩, ⟨none, .store 32 (.tmp 6) (.tmp 63), none⟩, ⟨some 7, .assign (.const (.bool false)), none⟩])) (.keep [6, 7])) .ret)
@[go_sem ↓] def uq242 := @unC _ _ kc184.eq_1
def kc185 : C := (.cond (.tmp 62) kc184 .skip)
@[go_sem ↓] def uq243 := @unC _ _ kc185.eq_1
def kc186 : C := (.seq (.reg ([⟨some 64, .load 32 (.tmp 12), none⟩, ⟨none, .store 32 (.tmp 3) (.tmp 64), none⟩])) (.keep [3, 6, 34, 35, 36]))
@[go_sem ↓] def uq244 := @unC _ _ kc186.eq_1
def kc187 : C := (.seq (.seq (.seq (.reg ([⟨some 61, .move (.tmp 13), none⟩, ⟨some 62, .binOp .neq 35 (.tmp 61) (.const (.int .i64 0)) 35, none⟩])) (.keep [3, 6, 12, 34, 35, 36, 62])) kc185) kc186)
@[go_sem ↓] def uq245 := @unC _ _ kc187.eq_1
def kc188 : C := (.seq (.seq (.draw (⟨⟨some 46, .load 32 (.tmp 3), none⟩, []⟩ :: ⟨⟨some 47, .fieldAddr 47 (.tmp 11) 1, none⟩, [0]⟩ :: ⟨⟨some 48, .load 24 (.tmp 47), none⟩, [0]⟩ :: ⟨⟨some 49, .indexAddr 24 (.tmp 48) (.const (.int .i64 0)), none⟩, [0]⟩ :: ⟨⟨some 50, .load 5 (.tmp 49), none⟩, [0]⟩ :: ⟨⟨some 51, .convert 5 3 (.tmp 50), none⟩, [0]⟩ :: ⟨⟨some 52, .fieldAddr 47 (.tmp 11) 1, none⟩, [0, 1, 2, 3, 4, 5]⟩ :: ⟨⟨some 53, .load 24 (.tmp 52), none⟩, [0, 1, 2, 3, 4, 5]⟩ :: ⟨⟨some 54, .slice 24 (.tmp 53) (some (.const (.int .i64 1))) none none, none⟩, [0, 1, 2, 3, 4, 5]⟩ :: ⟨⟨some 55, .call { callee := .value (.func 81), args := #[(.tmp 54), (.const (.int .i64 0))], argTypes := #[24, 3] }, none⟩, [0, 1, 2, 3, 4, 5]⟩ :: d_journal_replay_8)) (.keep [3, 6, 12, 13, 34, 35, 36])) kc187)
@[go_sem ↓] def uq246 := @unC _ _ kc188.eq_1
def kc189 : C := (.seq (.seq (.seq (.reg ([⟨some 40, .fieldAddr 47 (.tmp 11) 1, none⟩, ⟨some 41, .load 24 (.tmp 40), none⟩, ⟨some 42, .call { callee := .builtin .len, args := #[(.tmp 41)], argTypes := #[24] }, none⟩, ⟨some 43, .binOp .neq 3 (.tmp 42) (.const (.int .i64 9)) 3, none⟩])) (.keep [3, 6, 11, 34, 35, 36, 43])) kc183) kc188)
@[go_sem ↓] def uq247 := @unC _ _ kc189.eq_1
def kc190 : C := (.seq (.reg ([⟨some 65, .binOp .add 3 (.tmp 36) (.const (.int .i64 1)) 3, none⟩, ⟨some 36, .move (.tmp 65), none⟩])) (.keep [3, 6, 34, 35, 36]))
@[go_sem ↓] def uq248 := @unC _ _ kc190.eq_1
def kc191 : C := (.seq (.block 1 (.seq (.seq (.reg ([⟨some 38, .indexAddr 96 (.tmp 34) (.tmp 36), none⟩, ⟨some 39, .load 47 (.tmp 38), none⟩, ⟨some 11, .alloc 47, none⟩, ⟨none, .store 47 (.tmp 11) (.tmp 39), none⟩])) (.keep [3, 6, 11, 34, 35, 36])) kc189)) kc190)
@[go_sem ↓] def uq249 := @unC _ _ kc191.eq_1
def kc192 : C := (.seq (.cond (.tmp 37) .skip (.exit 0)) kc191)
@[go_sem ↓] def uq250 := @unC _ _ kc192.eq_1
def kc193 : C := (.seq (.seq (.reg ([⟨some 37, .binOp .lss 3 (.tmp 36) (.tmp 35) 3, none⟩])) (.keep [3, 6, 34, 35, 36, 37])) kc192)
@[go_sem ↓] def uq251 := @unC _ _ kc193.eq_1
def kc194 : C := (.block 0 (.loop [] [3, 6, 34, 35, 36] kc193))
@[go_sem ↓] def uq252 := @unC _ _ kc194.eq_1
def kc195 : C := (.seq (.seq (.reg ([⟨some 66, .load 32 (.tmp 3), none⟩, ⟨none, .store 32 (.tmp 6) (.tmp 66), none⟩, ⟨some 7, .assign (.const (.bool true)), none⟩])) (.keep [6, 7])) .ret)
@[go_sem ↓] def uq253 := @unC _ _ kc195.eq_1
def kc196 : C := (.seq (.seq (.seq (.reg ([⟨some 34, .move (.tmp 8), none⟩, ⟨some 35, .call { callee := .builtin .len, args := #[(.tmp 34)], argTypes := #[96] }, none⟩, ⟨some 36, .move (.const (.int .i64 0)), none⟩])) (.keep [3, 6, 34, 35, 36])) kc194) kc195)
@[go_sem ↓] def uq254 := @unC _ _ kc196.eq_1
def kc197 : C := (.seq (.seq (.seq (.reg ([⟨some 31, .move (.tmp 9), none⟩, ⟨some 32, .binOp .neq 35 (.tmp 31) (.const (.int .i64 0)) 35, none⟩])) (.keep [3, 6, 8, 32])) kc181) kc196)
@[go_sem ↓] def uq255 := @unC _ _ kc197.eq_1
def kc198 : C := (.seq (.seq (.reg (⟨some 26, .load 31 (.tmp 4), none⟩ :: ⟨some 27, .move (.tmp 2), none⟩ :: ⟨some 28, .call { callee := .value (.func 48), args := #[(.tmp 26), (.tmp 27)], argTypes := #[31, 3] }, none⟩ :: r_journal_replay_2)) (.keep [3, 6, 8, 9])) kc197)
@[go_sem ↓] def uq256 := @unC _ _ kc198.eq_1
def kc199 : C := (.seq (.seq (.seq (.reg ([⟨some 14, .move (.tmp 2), none⟩, ⟨some 15, .fieldAddr 31 (.tmp 4) 1, none⟩, ⟨some 16, .load 3 (.tmp 15), none⟩, ⟨some 17, .binOp .lss 3 (.tmp 14) (.tmp 16) 3, none⟩, ⟨some 18, .move (.tmp 17), none⟩, ⟨some 19, .move (.tmp 2), some (18, false)⟩, ⟨some 20, .fieldAddr 31 (.tmp 4) 2, some (18, false)⟩, ⟨some 21, .load 3 (.tmp 20), some (18, false)⟩, ⟨some 22, .binOp .gtr 3 (.tmp 19) (.tmp 21) 3, some (18, false)⟩, ⟨some 23, .pick (.tmp 18) (.const (.bool true)) (.tmp 22), none⟩])) (.keep [2, 3, 4, 6, 23])) kc179) kc198)
@[go_sem ↓] def uq257 := @unC _ _ kc199.eq_1
def c_journal_replay : C := (.seq (.seq (.reg ([⟨some 3, .box 32 (.tmp 0), none⟩, ⟨some 4, .box 31 (.tmp 1), none⟩, ⟨some 6, .alloc 32, none⟩, ⟨some 7, .assign (.const (.bool false)), none⟩])) (.keep [2, 3, 4, 6])) kc199)
attribute [go_sem ↓] c_journal_replay
def h_journal_replay : List Hint := [⟨[], [2, 3, 4, 6], []⟩, ⟨[], [2, 3, 4, 6, 23], []⟩, ⟨[], [6, 7], []⟩, ⟨[], [3, 6, 8, 9], []⟩, ⟨[], [3, 6, 8, 32], []⟩, ⟨[], [6, 7], []⟩, ⟨[], [3, 6, 34, 35, 36], []⟩, ⟨[], [3, 6, 34, 35, 36], []⟩, ⟨[], [3, 6, 34, 35, 36, 37], []⟩, ⟨[], [3, 6, 11, 34, 35, 36], []⟩, ⟨[], [3, 6, 11, 34, 35, 36, 43], []⟩, ⟨[], [6, 7], []⟩, ⟨[], [3, 6, 12, 13, 34, 35, 36], []⟩, ⟨[], [3, 6, 12, 34, 35, 36, 62], []⟩, ⟨[], [6, 7], []⟩, ⟨[], [3, 6, 34, 35, 36], []⟩, ⟨[], [3, 6, 34, 35, 36], []⟩, ⟨[], [6, 7], []⟩]
theorem b_journal_replay : Body Try.prog 57 [] h_journal_replay c_journal_replay 67 [.cell 6 32, .tmp 7] := body_of Try.func57 (by kernel_rfl) (by kernel_rfl) (by kernel_rfl) (by kernel_rfl)
def c_slices_Min : C := (.seq (.seq (.reg ([⟨some 2, .assign (.const (.int .i64 0)), none⟩])) (.keep [0])) (.seq (.seq (.seq (.reg ([⟨some 5, .move (.tmp 0), none⟩, ⟨some 6, .call { callee := .builtin .len, args := #[(.tmp 5)], argTypes := #[121] }, none⟩, ⟨some 7, .binOp .lss 3 (.tmp 6) (.const (.int .i64 1)) 3, none⟩])) (.keep [0, 7])) (.cond (.tmp 7) (.seq (.reg ([⟨some 8, .makeInterface 9 (.const (.string ⟨#[115, 108, 105, 99, 101, 115, 46, 77, 105, 110, 58, 32, 101, 109, 112, 116, 121, 32, 108, 105, 115, 116]⟩)), none⟩, ⟨none, .panic (.tmp 8), none⟩])) (.keep [0])) .skip)) (.seq (.seq (.reg ([⟨some 9, .move (.tmp 0), none⟩, ⟨some 10, .indexAddr 121 (.tmp 9) (.const (.int .i64 0)), none⟩, ⟨some 11, .load 3 (.tmp 10), none⟩, ⟨some 3, .assign (.tmp 11), none⟩])) (.keep [0, 3])) (.seq (.seq (.seq (.reg ([⟨some 4, .assign (.const (.int .i64 1)), none⟩])) (.keep [0, 3, 4])) (.block 0 (.loop [] [0, 3, 4] (.seq (.seq (.seq (.reg ([⟨some 12, .move (.tmp 4), none⟩, ⟨some 13, .move (.tmp 0), none⟩, ⟨some 14, .call { callee := .builtin .len, args := #[(.tmp 13)], argTypes := #[121] }, none⟩, ⟨some 15, .binOp .lss 3 (.tmp 12) (.tmp 14) 3, none⟩])) (.keep [0, 3, 4, 15])) (.cond (.tmp 15) .skip (.exit 0))) (.seq (.block 1 (.seq (.reg ([⟨some 18, .move (.tmp 3), none⟩, ⟨some 19, .move (.tmp 0), none⟩, ⟨some 20, .move (.tmp 4), none⟩, ⟨some 21, .indexAddr 121 (.tmp 19) (.tmp 20), none⟩, ⟨some 22, .load 3 (.tmp 21), none⟩, ⟨some 23, .call { callee := .builtin .min, args := #[(.tmp 18), (.tmp 22)], argTypes := #[3, 3] }, none⟩, ⟨some 3, .assign (.tmp 23), none⟩])) (.keep [0, 3, 4]))) (.seq (.reg ([⟨some 16, .move (.tmp 4), none⟩, ⟨some 17, .binOp .add 3 (.tmp 16) (.const (.int .i64 1)) 3, none⟩, ⟨some 4, .assign (.tmp 17), none⟩])) (.keep [0, 3, 4]))))))) (.seq (.seq (.reg ([⟨some 24, .move (.tmp 3), none⟩, ⟨some 2, .assign (.tmp 24), none⟩])) (.keep [2])) .ret)))))
attribute [go_sem ↓] c_slices_Min
def h_slices_Min : List Hint := [⟨[], [0], []⟩, ⟨[], [0, 7], []⟩, ⟨[], [0], []⟩, ⟨[], [0, 3], []⟩, ⟨[], [0, 3, 4], []⟩, ⟨[], [0, 3, 4], []⟩, ⟨[], [0, 3, 4, 15], []⟩, ⟨[], [0, 3, 4], []⟩, ⟨[], [0, 3, 4], []⟩, ⟨[], [2], []⟩]
theorem b_slices_Min : Body Try.prog 79 [] h_slices_Min c_slices_Min 25 [.tmp 2] := body_of Try.func79 (by kernel_rfl) (by kernel_rfl) (by kernel_rfl) (by kernel_rfl)
def c_slices_Max : C := (.seq (.seq (.reg ([⟨some 2, .assign (.const (.int .i64 0)), none⟩])) (.keep [0])) (.seq (.seq (.seq (.reg ([⟨some 5, .move (.tmp 0), none⟩, ⟨some 6, .call { callee := .builtin .len, args := #[(.tmp 5)], argTypes := #[121] }, none⟩, ⟨some 7, .binOp .lss 3 (.tmp 6) (.const (.int .i64 1)) 3, none⟩])) (.keep [0, 7])) (.cond (.tmp 7) (.seq (.reg ([⟨some 8, .makeInterface 9 (.const (.string ⟨#[115, 108, 105, 99, 101, 115, 46, 77, 97, 120, 58, 32, 101, 109, 112, 116, 121, 32, 108, 105, 115, 116]⟩)), none⟩, ⟨none, .panic (.tmp 8), none⟩])) (.keep [0])) .skip)) (.seq (.seq (.reg ([⟨some 9, .move (.tmp 0), none⟩, ⟨some 10, .indexAddr 121 (.tmp 9) (.const (.int .i64 0)), none⟩, ⟨some 11, .load 3 (.tmp 10), none⟩, ⟨some 3, .assign (.tmp 11), none⟩])) (.keep [0, 3])) (.seq (.seq (.seq (.reg ([⟨some 4, .assign (.const (.int .i64 1)), none⟩])) (.keep [0, 3, 4])) (.block 0 (.loop [] [0, 3, 4] (.seq (.seq (.seq (.reg ([⟨some 12, .move (.tmp 4), none⟩, ⟨some 13, .move (.tmp 0), none⟩, ⟨some 14, .call { callee := .builtin .len, args := #[(.tmp 13)], argTypes := #[121] }, none⟩, ⟨some 15, .binOp .lss 3 (.tmp 12) (.tmp 14) 3, none⟩])) (.keep [0, 3, 4, 15])) (.cond (.tmp 15) .skip (.exit 0))) (.seq (.block 1 (.seq (.reg ([⟨some 18, .move (.tmp 3), none⟩, ⟨some 19, .move (.tmp 0), none⟩, ⟨some 20, .move (.tmp 4), none⟩, ⟨some 21, .indexAddr 121 (.tmp 19) (.tmp 20), none⟩, ⟨some 22, .load 3 (.tmp 21), none⟩, ⟨some 23, .call { callee := .builtin .max, args := #[(.tmp 18), (.tmp 22)], argTypes := #[3, 3] }, none⟩, ⟨some 3, .assign (.tmp 23), none⟩])) (.keep [0, 3, 4]))) (.seq (.reg ([⟨some 16, .move (.tmp 4), none⟩, ⟨some 17, .binOp .add 3 (.tmp 16) (.const (.int .i64 1)) 3, none⟩, ⟨some 4, .assign (.tmp 17), none⟩])) (.keep [0, 3, 4]))))))) (.seq (.seq (.reg ([⟨some 24, .move (.tmp 3), none⟩, ⟨some 2, .assign (.tmp 24), none⟩])) (.keep [2])) .ret)))))
attribute [go_sem ↓] c_slices_Max
def h_slices_Max : List Hint := [⟨[], [0], []⟩, ⟨[], [0, 7], []⟩, ⟨[], [0], []⟩, ⟨[], [0, 3], []⟩, ⟨[], [0, 3, 4], []⟩, ⟨[], [0, 3, 4], []⟩, ⟨[], [0, 3, 4, 15], []⟩, ⟨[], [0, 3, 4], []⟩, ⟨[], [0, 3, 4], []⟩, ⟨[], [2], []⟩]
theorem b_slices_Max : Body Try.prog 80 [] h_slices_Max c_slices_Max 25 [.tmp 2] := body_of Try.func80 (by kernel_rfl) (by kernel_rfl) (by kernel_rfl) (by kernel_rfl)
def c_journal_get : C := (.seq (.seq (.reg ([⟨some 4, .assign (.const (.int .i64 0)), none⟩])) (.keep [0, 1])) (.seq (.seq (.reg ([⟨some 5, .assign (.const (.int .u64 0)), none⟩])) (.keep [0, 1, 5])) (.seq (.seq (.seq (.reg ([⟨some 7, .move (.const (.int .i64 0)), none⟩])) (.keep [0, 1, 5, 7])) (.block 0 (.loop [] [0, 1, 5, 7] (.seq (.seq (.reg ([⟨some 8, .binOp .lss 3 (.tmp 7) (.const (.int .i64 8)) 3, none⟩])) (.keep [0, 1, 5, 7, 8])) (.seq (.cond (.tmp 8) .skip (.exit 0)) (.seq (.block 1 (.seq (.seq (.reg ([⟨some 9, .move (.tmp 7), none⟩, ⟨some 6, .assign (.tmp 9), none⟩])) (.keep [0, 1, 5, 6, 7])) (.seq (.reg ([⟨some 10, .move (.tmp 5), none⟩, ⟨some 11, .move (.tmp 0), none⟩, ⟨some 12, .move (.tmp 1), none⟩, ⟨some 13, .binOp .mul 3 (.const (.int .i64 8)) (.tmp 12) 3, none⟩, ⟨some 14, .move (.tmp 6), none⟩, ⟨some 15, .binOp .add 3 (.tmp 13) (.tmp 14) 3, none⟩, ⟨some 16, .indexAddr 24 (.tmp 11) (.tmp 15), none⟩, ⟨some 17, .load 5 (.tmp 16), none⟩, ⟨some 18, .convert 5 124 (.tmp 17), none⟩, ⟨some 19, .move (.tmp 6), none⟩, ⟨some 20, .binOp .mul 3 (.const (.int .i64 8)) (.tmp 19) 3, none⟩, ⟨some 21, .binOp .shl 124 (.tmp 18) (.tmp 20) 3, none⟩, ⟨some 22, .binOp .or 124 (.tmp 10) (.tmp 21) 124, none⟩, ⟨some 5, .assign (.tmp 22), none⟩])) (.keep [0, 1, 5, 7])))) (.seq (.reg ([⟨some 23, .binOp .add 3 (.tmp 7) (.const (.int .i64 1)) 3, none⟩, ⟨some 7, .move (.tmp 23), none⟩])) (.keep [0, 1, 5, 7])))))))) (.seq (.seq (.reg ([⟨some 24, .move (.tmp 5), none⟩, ⟨some 25, .convert 124 3 (.tmp 24), none⟩, ⟨some 4, .assign (.tmp 25), none⟩])) (.keep [4])) .ret))))
attribute [go_sem ↓] c_journal_get
def h_journal_get : List Hint := [⟨[], [0, 1], []⟩, ⟨[], [0, 1, 5], []⟩, ⟨[], [0, 1, 5, 7], []⟩, ⟨[], [0, 1, 5, 7], []⟩, ⟨[], [0, 1, 5, 7, 8], []⟩, ⟨[], [0, 1, 5, 6, 7], []⟩, ⟨[], [0, 1, 5, 7], []⟩, ⟨[], [0, 1, 5, 7], []⟩, ⟨[], [4], []⟩]
theorem b_journal_get : Body Try.prog 81 [] h_journal_get c_journal_get 26 [.tmp 4] := body_of Try.func81 (by kernel_rfl) (by kernel_rfl) (by kernel_rfl) (by kernel_rfl)
set_option maxHeartbeats 2000000
def iT (xs : List Int) : List (List T) := xs.map fun x => [.i .i64 x]
def clT (cs : List Int) : List T := cs.map fun x => .i .i64 x
theorem iT_length (xs : List Int) : (iT xs).length = xs.length := by simp [iT]
theorem clT_length (xs : List Int) : (clT xs).length = xs.length := by simp [clT]
theorem iT_get {xs : List Int} {k : Nat} (h : k < xs.length) : (iT xs)[k]? = some [.i .i64 xs[k]] := by simp [iT, h]
attribute [go_sem] iT_length clT_length
def minL : Int → List Int → Int
  | m, [] => m
  | m, x :: xs => minL (if x < m then x else m) xs
def maxL : Int → List Int → Int
  | m, [] => m
  | m, x :: xs => maxL (if m < x then x else m) xs
theorem minL_step (x : Int) (xs : List Int) {k : Nat} (h : k < xs.length) : minL x (xs.take (k + 1)) = if xs[k] < minL x (xs.take k) then xs[k] else minL x (xs.take k) := by
  induction xs generalizing x k with
  | nil => simp at h
  | cons y ys ih =>
    cases k with
    | zero => rfl
    | succ k =>
      simp only [List.take_succ_cons, minL, List.getElem_cons_succ]
      exact ih _ (by simpa using h)
theorem maxL_step (x : Int) (xs : List Int) {k : Nat} (h : k < xs.length) : maxL x (xs.take (k + 1)) = if maxL x (xs.take k) < xs[k] then xs[k] else maxL x (xs.take k) := by
  induction xs generalizing x k with
  | nil => simp at h
  | cons y ys ih =>
    cases k with
    | zero => rfl
    | succ k =>
      simp only [List.take_succ_cons, maxL, List.getElem_cons_succ]
      exact ih _ (by simpa using h)
theorem minL_ge (b : Int) : ∀ (x : Int) (xs : List Int), b ≤ minL x xs ↔ b ≤ x ∧ ∀ y ∈ xs, b ≤ y
  | x, [] => by simp [minL]
  | x, y :: ys => by
    simp only [minL, minL_ge b, List.mem_cons, forall_eq_or_imp]
    split <;> constructor <;> intro h <;> (first | exact ⟨by omega, by omega, h.2⟩ | exact ⟨by omega, h.2.2⟩)
theorem maxL_le (b : Int) : ∀ (x : Int) (xs : List Int), maxL x xs ≤ b ↔ x ≤ b ∧ ∀ y ∈ xs, y ≤ b
  | x, [] => by simp [maxL]
  | x, y :: ys => by
    simp only [maxL, maxL_le b, List.mem_cons, forall_eq_or_imp]
    split <;> constructor <;> intro h <;> (first | exact ⟨by omega, by omega, h.2⟩ | exact ⟨by omega, h.2.2⟩)
theorem s_slices_Min (x : Int) (xs : List Int) (hn : xs.length ≤ 1000) : Spec Try.prog 79 [.sl (iT (x :: xs))] [] (.t (.i .i64 (minL x xs)) true) := by
  refine spec_k (hold mixed) b_slices_Min [(.i .i64 (minL x xs), true)] ?_
  have e0 : (((xs.length + 1 : Nat) : Int) < 1) = False := eq_false (by omega)
  have e1 : (0 < xs.length + 1) = True := eq_true (by omega)
  have g0 : (iT (x :: xs))[0]? = some [.i .i64 x] := rfl
  simp -implicitDefEqProofs only [go_sem, seval, sk, List.length_cons, e0, g0, e1]
  refine loop_l (α := Nat) (fun j => ⟨tmL [(0, .t (.sl (iT (x :: xs))) false), (3, .t (.i .i64 (minL x (xs.take j))) (decide (0 < j))), (4, .t (.i .i64 (j + 1 : Nat)) true)], []⟩) (fun j => xs.length - j) (fun j => j ≤ xs.length) 0 (by simp -implicitDefEqProofs only [go_sem, seval] <;> rfl) (Nat.zero_le _) ?_
  intro j hj R hR
  simp -implicitDefEqProofs only [go_sem, seval, sk, List.length_cons]
  refine wcond_mk (fun hh => ?_) (fun hh => ?_)
  · have hj' : j < xs.length := by have := of_decide_eq_true hh; omega
    have e2 : (((j + 1 : Nat) : Int) < ((xs.length + 1 : Nat) : Int)) = True := eq_true (by omega)
    have e3 : (j + 1 < xs.length + 1) = True := eq_true (by omega)
    have g1 : (iT (x :: xs))[j + 1]? = some [.i .i64 xs[j]] := iT_get (xs := x :: xs) (by simp; omega)
    have e4 : IntKind.i64.wrap (((j + 1 : Nat) : Int) + 1) = ((j + 1 + 1 : Nat) : Int) := by rw [wrap_i64_id (by omega) (by omega)]; omega
    simp -implicitDefEqProofs only [go_sem, seval, sk, List.length_cons, e2, e3, g1, e4]
    refine hR (j + 1) _ ?_ (by omega) (by omega)
    rw [minL_step x xs hj', show decide (0 < j + 1) = true by simp]
    rfl
  · have hj' : j = xs.length := by have := of_decide_eq_false hh; omega
    subst hj'
    simp -implicitDefEqProofs only [go_sem, seval, sk, List.take_length]
theorem s_slices_Max (x : Int) (xs : List Int) (hn : xs.length ≤ 1000) : Spec Try.prog 80 [.sl (iT (x :: xs))] [] (.t (.i .i64 (maxL x xs)) true) := by
  refine spec_k (hold mixed) b_slices_Max [(.i .i64 (maxL x xs), true)] ?_
  have e0 : (((xs.length + 1 : Nat) : Int) < 1) = False := eq_false (by omega)
  have e1 : (0 < xs.length + 1) = True := eq_true (by omega)
  have g0 : (iT (x :: xs))[0]? = some [.i .i64 x] := rfl
  simp -implicitDefEqProofs only [go_sem, seval, sk, List.length_cons, e0, g0, e1]
  refine loop_l (α := Nat) (fun j => ⟨tmL [(0, .t (.sl (iT (x :: xs))) false), (3, .t (.i .i64 (maxL x (xs.take j))) (decide (0 < j))), (4, .t (.i .i64 (j + 1 : Nat)) true)], []⟩) (fun j => xs.length - j) (fun j => j ≤ xs.length) 0 (by simp -implicitDefEqProofs only [go_sem, seval] <;> rfl) (Nat.zero_le _) ?_
  intro j hj R hR
  simp -implicitDefEqProofs only [go_sem, seval, sk, List.length_cons]
  refine wcond_mk (fun hh => ?_) (fun hh => ?_)
  · have hj' : j < xs.length := by have := of_decide_eq_true hh; omega
    have e2 : (((j + 1 : Nat) : Int) < ((xs.length + 1 : Nat) : Int)) = True := eq_true (by omega)
    have e3 : (j + 1 < xs.length + 1) = True := eq_true (by omega)
    have g1 : (iT (x :: xs))[j + 1]? = some [.i .i64 xs[j]] := iT_get (xs := x :: xs) (by simp; omega)
    have e4 : IntKind.i64.wrap (((j + 1 : Nat) : Int) + 1) = ((j + 1 + 1 : Nat) : Int) := by rw [wrap_i64_id (by omega) (by omega)]; omega
    simp -implicitDefEqProofs only [go_sem, seval, sk, List.length_cons, e2, e3, g1, e4]
    refine hR (j + 1) _ ?_ (by omega) (by omega)
    rw [maxL_step x xs hj', show decide (0 < j + 1) = true by simp]
    rfl
  · have hj' : j = xs.length := by have := of_decide_eq_false hh; omega
    subst hj'
    simp -implicitDefEqProofs only [go_sem, seval, sk, List.take_length]
def stOK (cs : List Int) : Bool := cs.all fun c => decide (-1000000000 ≤ c) && decide (c ≤ 1000000000)
theorem stOK_at {cs : List Int} (h : stOK cs = true) {k : Nat} (hk : k < cs.length) : -1000000000 ≤ cs[k] ∧ cs[k] ≤ 1000000000 := by
  have := List.all_eq_true.1 h _ (List.getElem_mem hk)
  simpa using this
def clF (l : Bool) (cs : List Int) : List AV := cs.map fun x => .t (.i .i64 x) l
theorem clF_length (l : Bool) (xs : List Int) : (clF l xs).length = xs.length := by simp [clF]
theorem clF_map (l : Bool) (xs : List Int) : List.map (fun x => AV.t x l) (clT xs) = clF l xs := by simp [clF, clT]
attribute [go_sem] clF_length
theorem clF_to (l : Bool) (m : Nat) (h : H) (ws : List Int) : List.map (toT1 m h) (clF l ws) = clF l ws := by
  unfold clF
  rw [List.map_map]
  refine List.map_congr_left fun x _ => ?_
  rfl
theorem clF_all (l : Bool) (m : Nat) (ws : List Int) : (clF l ws).all (below m) = true := by
  rw [List.all_eq_true]
  intro x hx
  simp only [clF, List.mem_map] at hx
  obtain ⟨b, _, rfl⟩ := hx
  rfl
theorem clF_one (l : Bool) (ws : List Int) : ∀ v ∈ clF l ws, v.one := by
  intro v hv
  simp only [clF, List.mem_map] at hv
  obtain ⟨b, _, rfl⟩ := hv
  simp [AV.one, T.one]
theorem argCs_clF (l : Bool) (h : H) : ∀ ws : List Int, argCs h (clF l ws) (clT ws) = True
  | [] => by show argCs h [] [] = True; rw [argCs_nil]
  | b :: ws => by
    show argCs h (.t (.i .i64 b) l :: clF l ws) (.i .i64 b :: clT ws) = True
    rw [argCs_cons, argCs_clF l h ws, arg1_t]
    simp
attribute [go_sem] clF_to clF_all argCs_clF
theorem clF_take {l : Bool} {ws : List Int} (h : ws.length = 8) : List.take 8 (clF l ws) = clF l ws := List.take_of_length_le (by rw [clF_length]; omega)
theorem clF_drop {l : Bool} {ws : List Int} (h : ws.length = 8) : List.drop 8 (clF l ws) = [] := List.drop_of_length_le (by rw [clF_length]; omega)
theorem clT_take {ws : List Int} (h : ws.length = 8) : List.take 8 (clT ws) = clT ws := List.take_of_length_le (by rw [clT_length]; omega)
theorem plains_clF (l : Bool) {ws : List Int} (h : ws.length = 8) : plains (clF l ws) = some (clT ws, l) := by
  have key : ∀ ws : List Int, plains (clF l ws) = some (clT ws, l || ws.isEmpty) := by
    intro ws
    induction ws with
    | nil => cases l <;> rfl
    | cons b ws ih =>
      show plains (.t (.i .i64 b) l :: clF l ws) = _
      simp only [plains, AV.plain, ih]
      cases l <;> simp [clT]
  rw [key]
  cases ws with
  | nil => cases h
  | cons b ws => cases l <;> rfl
theorem embs_clF (l : Bool) (h : H) (ws : List Int) : embs h (clF l ws) = some (clT ws, true, []) := by
  induction ws with
  | nil => rfl
  | cons b ws ih =>
    show embs h (.t (.i .i64 b) l :: clF l ws) = _
    simp only [embs, emb, ih]
    cases l <;> rfl
theorem chunk_clT : ∀ ws : List Int, chunk 1 ws.length (clT ws) = iT ws
  | [] => rfl
  | b :: ws => by
    show [T.i .i64 b] :: chunk 1 ws.length (clT ws) = _
    rw [chunk_clT ws]
    rfl
theorem chunk8 {ws : List Int} (h : ws.length = 8) : chunk 1 8 (clT ws) = iT ws := by
  have := chunk_clT ws
  rwa [h] at this
attribute [go_sem ↓] chunk8
attribute [go_sem] embs_clF
theorem iT_len1 (ws : List Int) : ∀ e ∈ iT ws, e.length = 1 := fun e he => by
  simp only [iT, List.mem_map] at he
  obtain ⟨x, _, rfl⟩ := he
  rfl
theorem room8 : (8 ≤ room) = True := eq_true (by unfold room; omega)
theorem s_journal_fine (cs : List Int) (h8 : cs.length = 8) : Spec Try.prog 53 [.agg (clT cs)] [] (.t (.b (stOK cs)) true) := by
  refine spec_k (hold mixed) b_journal_fine [(.b (stOK cs), true)] ?_
  have hp := plains_clF false h8
  have ht := clF_take (l := false) h8
  have hc := chunk8 h8
  obtain ⟨x, xs, hx⟩ : ∃ x xs, cs = x :: xs := by
    cases cs with
    | nil => cases h8
    | cons x xs => exact ⟨x, xs, rfl⟩
  have hxl : xs.length ≤ 1000 := by rw [hx] at h8; simp at h8; omega
  have hMin := s_slices_Min x xs hxl
  have hMax := s_slices_Max x xs hxl
  rw [← hx] at hMin hMax
  simp -implicitDefEqProofs only [go_sem, seval, sk, clF_map]
  refine ⟨by omega, ?_⟩
  refine call_k hMin ?_ (by simp -implicitDefEqProofs only [go_sem, seval, sk, ht, hp, h8, hc, room8]; exact iT_len1 _)
  have key : stOK cs = (decide (-1000000000 ≤ minL x xs) && decide (maxL x xs ≤ 1000000000)) := by
    rw [Bool.eq_iff_iff]
    simp only [stOK, hx, List.all_eq_true, Bool.and_eq_true, decide_eq_true_eq, minL_ge, maxL_le, List.mem_cons, forall_eq_or_imp]
    constructor
    · intro h; exact ⟨⟨h.1.1, fun y hy => (h.2 y hy).1⟩, h.1.2, fun y hy => (h.2 y hy).2⟩
    · intro h; exact ⟨⟨h.1.1, h.2.1⟩, fun y hy => ⟨h.1.2 y hy, h.2.2 y hy⟩⟩
  by_cases c1 : -1000000000 ≤ minL x xs
  · simp -implicitDefEqProofs only [go_sem, seval, sk, eq_true c1, h8]
    refine call_k hMax ?_ (by simp -implicitDefEqProofs only [go_sem, seval, sk, ht, hp, h8, hc, room8]; exact iT_len1 _)
    simp -implicitDefEqProofs only [go_sem, seval, sk, key, eq_true c1]
  · simp -implicitDefEqProofs only [go_sem, seval, sk, eq_false c1, key]
def mT (m : Int × Int) : List T := [.i .i64 m.1, .i .i64 m.2]
def mOK (m : Int × Int) : Bool := decide (0 ≤ m.1) && (decide (m.1 < 8) && (decide (-1000000 ≤ m.2) && decide (m.2 ≤ 1000000)))
theorem mOK_iff (m : Int × Int) : mOK m = true ↔ 0 ≤ m.1 ∧ m.1 < 8 ∧ -1000000 ≤ m.2 ∧ m.2 ≤ 1000000 := by simp [mOK]
attribute [go_sem] mT
theorem s_journal_valid (m : Int × Int) : Spec Try.prog 54 [.agg (mT m)] [] (.t (.b (mOK m)) true) := by
  refine spec_k (hold mixed) b_journal_valid [(.b (mOK m), true)] ?_
  by_cases c1 : 0 ≤ m.1
  · by_cases c2 : m.1 < 8
    · by_cases c3 : -1000000 ≤ m.2
      · simp -implicitDefEqProofs only [go_sem, seval, sk, mOK, eq_true c1, eq_true c2, eq_true c3]
      · simp -implicitDefEqProofs only [go_sem, seval, sk, mOK, eq_true c1, eq_true c2, eq_false c3]
    · simp -implicitDefEqProofs only [go_sem, seval, sk, mOK, eq_true c1, eq_false c2]
  · simp -implicitDefEqProofs only [go_sem, seval, sk, mOK, eq_false c1]
theorem s_ref06_Valid (m : Int × Int) : Spec Try.prog 9 [.agg (mT m)] [] (.t (.b (mOK m)) true) := by
  refine spec_k (hold mixed) b_ref06_Valid [(.b (mOK m), true)] ?_
  by_cases c1 : 0 ≤ m.1
  · by_cases c2 : m.1 < 8
    · by_cases c3 : -1000000 ≤ m.2
      · simp -implicitDefEqProofs only [go_sem, seval, sk, mOK, eq_true c1, eq_true c2, eq_true c3]
      · simp -implicitDefEqProofs only [go_sem, seval, sk, mOK, eq_true c1, eq_true c2, eq_false c3]
    · simp -implicitDefEqProofs only [go_sem, seval, sk, mOK, eq_true c1, eq_false c2]
  · simp -implicitDefEqProofs only [go_sem, seval, sk, mOK, eq_false c1]
def mvT (l : List (Int × Int)) : List (List T) := l.map mT
theorem mvT_length (l : List (Int × Int)) : (mvT l).length = l.length := by simp [mvT]
theorem mvT_get {l : List (Int × Int)} {k : Nat} (h : k < l.length) : (mvT l)[k]? = some (mT l[k]) := by simp [mvT, h]
attribute [go_sem] mvT_length
def z8 : List Int := [0, 0, 0, 0, 0, 0, 0, 0]
def stepC (cs : List Int) (m : Int × Int) : List Int := cs.set m.1.toNat ((cs[m.1.toNat]?).getD 0 + m.2)
theorem stepC_len (cs : List Int) (m : Int × Int) : (stepC cs m).length = cs.length := by simp [stepC]
def appK : List Int → List (Int × Int) → List Int × Int
  | c, [] => (c, 0)
  | c, m :: l => if mOK m = true then (if stOK (stepC c m) = true then appK (stepC c m) l else (z8, 16)) else (z8, 2)
def applyV (c : List Int) (l : List (Int × Int)) : List Int × Int := if stOK c = true then appK c l else (z8, 8)
theorem appK_len : ∀ (l : List (Int × Int)) (c : List Int), c.length = 8 → (appK c l).1.length = 8
  | [], c, h => h
  | m :: l, c, h => by
    unfold appK
    split
    · split
      · exact appK_len l _ (by rw [stepC_len, h])
      · rfl
    · rfl
theorem applyV_len {c : List Int} (l : List (Int × Int)) (h : c.length = 8) : (applyV c l).1.length = 8 := by
  unfold applyV
  split
  · exact appK_len l c h
  · rfl
theorem appK_step {l : List (Int × Int)} {k : Nat} (h : k < l.length) (c : List Int) (h1 : mOK l[k] = true) (h2 : stOK (stepC c l[k]) = true) : appK c (l.drop k) = appK (stepC c l[k]) (l.drop (k + 1)) := by
  rw [List.drop_eq_getElem_cons h, appK, if_pos h1, if_pos h2]
theorem appK_arg {l : List (Int × Int)} {k : Nat} (h : k < l.length) (c : List Int) (h1 : ¬ mOK l[k] = true) : appK c (l.drop k) = (z8, 2) := by
  rw [List.drop_eq_getElem_cons h, appK, if_neg h1]
theorem appK_range {l : List (Int × Int)} {k : Nat} (h : k < l.length) (c : List Int) (h1 : mOK l[k] = true) (h2 : ¬ stOK (stepC c l[k]) = true) : appK c (l.drop k) = (z8, 16) := by
  rw [List.drop_eq_getElem_cons h, appK, if_pos h1, if_neg h2]
theorem appK_end {l : List (Int × Int)} {k : Nat} (h : ¬ k < l.length) (c : List Int) : appK c (l.drop k) = (c, 0) := by
  rw [List.drop_of_length_le (by omega)]
  rfl
theorem z8_T : clT z8 = [.i .i64 0, .i .i64 0, .i .i64 0, .i .i64 0, .i .i64 0, .i .i64 0, .i .i64 0, .i .i64 0] := rfl
def clM (ps : List (Int × Bool)) : List AV := ps.map fun p => .t (.i .i64 p.1) p.2
def nums (ps : List (Int × Bool)) : List Int := ps.map Prod.fst
def mk1 (l : Bool) (cs : List Int) : List (Int × Bool) := cs.map fun c => (c, l)
theorem clF_M (l : Bool) (cs : List Int) : clF l cs = clM (mk1 l cs) := by simp [clF, clM, mk1]
theorem nums_mk (l : Bool) (cs : List Int) : nums (mk1 l cs) = cs := by
  unfold nums mk1
  rw [List.map_map]
  exact List.map_id' cs
theorem nums_len (ps : List (Int × Bool)) : (nums ps).length = ps.length := by simp [nums]
theorem mk1_len (l : Bool) (cs : List Int) : (mk1 l cs).length = cs.length := by simp [mk1]
theorem nums_set (ps : List (Int × Bool)) (k : Nat) (v : Int) (b : Bool) : nums (ps.set k (v, b)) = (nums ps).set k v := by simp [nums, List.map_set]
theorem clM_length (ps : List (Int × Bool)) : (clM ps).length = ps.length := by simp [clM]
theorem clM_get {ps : List (Int × Bool)} {k : Nat} (h : k < ps.length) : (clM ps)[k]? = some (.t (.i .i64 ps[k].1) ps[k].2) := by simp [clM, h]
theorem clM_set (ps : List (Int × Bool)) (k : Nat) (v : Int) (b : Bool) : (clM ps).set k (.t (.i .i64 v) b) = clM (ps.set k (v, b)) := by simp [clM, List.map_set]
theorem clM_to (m : Nat) (h : H) (ws : List (Int × Bool)) : List.map (toT1 m h) (clM ws) = clM ws := by
  unfold clM
  rw [List.map_map]
  refine List.map_congr_left fun x _ => ?_
  rfl
theorem clM_all (m : Nat) (ws : List (Int × Bool)) : (clM ws).all (below m) = true := by
  rw [List.all_eq_true]
  intro x hx
  simp only [clM, List.mem_map] at hx
  obtain ⟨b, _, rfl⟩ := hx
  rfl
theorem clM_one (ws : List (Int × Bool)) : ∀ v ∈ clM ws, v.one := by
  intro v hv
  simp only [clM, List.mem_map] at hv
  obtain ⟨b, _, rfl⟩ := hv
  simp [AV.one, T.one]
theorem argCs_clM (h : H) : ∀ ws : List (Int × Bool), argCs h (clM ws) (clT (nums ws)) = True
  | [] => by show argCs h [] [] = True; rw [argCs_nil]
  | b :: ws => by
    show argCs h (.t (.i .i64 b.1) b.2 :: clM ws) (.i .i64 b.1 :: clT (nums ws)) = True
    rw [argCs_cons, argCs_clM h ws, arg1_t]
    simp
theorem embs_clM (h : H) (ws : List (Int × Bool)) : embs h (clM ws) = some (clT (nums ws), true, []) := by
  induction ws with
  | nil => rfl
  | cons b ws ih =>
    obtain ⟨b, l⟩ := b
    show embs h (.t (.i .i64 b) l :: clM ws) = _
    simp only [embs, emb, ih]
    cases l <;> rfl
theorem clM_take {ws : List (Int × Bool)} (h : ws.length = 8) : List.take 8 (clM ws) = clM ws := List.take_of_length_le (by rw [clM_length]; omega)
theorem clM_drop {ws : List (Int × Bool)} (h : ws.length = 8) : List.drop 8 (clM ws) = [] := List.drop_of_length_le (by rw [clM_length]; omega)
attribute [go_sem] clM_length clM_to clM_all argCs_clM embs_clM clM_set
theorem clM_cut {ps : List (Int × Bool)} {k : Nat} (h : k < ps.length) (v : Int) (b : Bool) : List.take k (clM ps) ++ [.t (.i .i64 v) b] ++ List.drop (k + 1) (clM ps) = clM (ps.set k (v, b)) := by
  rw [← clM_set, List.set_eq_take_append_cons_drop, if_pos (by rw [clM_length]; exact h)]
  simp
theorem z8_len : (mk1 true z8).length = 8 := rfl
attribute [go_sem] z8_len
def apF (l : List (Int × Int)) (p : Nat × List (Int × Bool)) : S := ⟨tmL [(2, .ptr 0 0), (4, .ptr 1 0), (12, .t (.sl (mvT l)) false), (13, .t (.i .i64 l.length) true), (14, .t (.i .i64 p.1) true)], [.var (clM p.2), .var (clM (mk1 true z8))]⟩
theorem s_journal_Apply (cs : List Int) (h8 : cs.length = 8) (l : List (Int × Int)) (hl : l.length ≤ 140737488355328) : Spec Try.prog 21 [.agg (clT cs), .sl (mvT l)] [] (.tup [.t (.agg (clT (applyV cs l).1)) true, .t (.i .i64 (applyV cs l).2) true]) := by
  refine spec_k (hold mixed) b_journal_Apply [(.agg (clT (applyV cs l).1), true), (.i .i64 (applyV cs l).2, true)] ?_
  simp -implicitDefEqProofs only [go_sem, seval, sk, clF_map]
  refine ⟨by omega, ?_⟩
  simp -implicitDefEqProofs only [go_sem, seval, sk, clF_take h8]
  first | refine call_k (s_journal_fine cs h8) ?_ | refine call_d (s_journal_fine cs h8) ?_
  cases c1 : stOK cs with
  | false =>
    rw [show applyV cs l = (z8, 8) from if_neg (by rw [c1]; decide), z8_T]
    simp -implicitDefEqProofs only [go_sem, seval, sk]
  | true =>
    rw [show applyV cs l = appK cs l from if_pos c1]
    simp -implicitDefEqProofs only [go_sem, seval, sk]
    refine loop_l (α := Nat × List (Int × Bool)) (apF l) (fun p => l.length - p.1) (fun p => p.1 ≤ l.length ∧ p.2.length = 8 ∧ stOK (nums p.2) = true ∧ appK cs l = appK (nums p.2) (l.drop p.1)) (0, mk1 false cs) (by simp -implicitDefEqProofs only [go_sem, seval, apF, clF_M]; rfl) ⟨Nat.zero_le _, by rw [mk1_len, h8], by rw [nums_mk, c1], by rw [nums_mk]; rfl⟩ ?_
    intro p hp R hR
    obtain ⟨j, ps⟩ := p
    obtain ⟨hj, hps, hst, hap⟩ := hp
    simp only at hj hps hst hap
    rw [hap]
    simp -implicitDefEqProofs only [go_sem, seval, sk, apF]
    refine wcond_mk (fun hh => ?_) (fun hh => ?_)
    · have hj' : j < l.length := by have := of_decide_eq_true hh; omega
      have hjj : (j : Int) < (l.length : Int) := by omega
      simp -implicitDefEqProofs only [go_sem, seval, sk, mvT_get hj', eq_true hjj]
      first | refine call_k (s_journal_valid l[j]) ?_ | refine call_d (s_journal_valid l[j]) ?_
      cases c2 : mOK l[j] with
      | false =>
        rw [appK_arg hj' _ (by rw [c2]; decide), z8_T]
        simp -implicitDefEqProofs only [go_sem, seval, sk]
      | true =>
        obtain ⟨m0, m1, m2, m3⟩ := (mOK_iff _).1 c2
        obtain ⟨k, hk⟩ : ∃ k : Nat, l[j].1 = k := ⟨l[j].1.toNat, by omega⟩
        have hk8 : k < ps.length := by omega
        have hk8' : k < (nums ps).length := by rw [nums_len]; exact hk8
        obtain ⟨b0, b1⟩ := stOK_at hst hk8'
        have hnk : (nums ps)[k] = ps[k].1 := by simp [nums]
        have hw : IntKind.i64.wrap (ps[k].1 + l[j].2) = ps[k].1 + l[j].2 := by
          rw [hnk] at b0 b1
          exact wrap_i64_id (by omega) (by omega)
        have e1 : ((0 : Int) ≤ (k : Int)) = True := eq_true (by omega)
        have e2 : ((k : Int) < 8) = True := eq_true (by omega)
        have hsc : stepC (nums ps) l[j] = nums (ps.set k (ps[k].1 + l[j].2, true)) := by
          rw [nums_set]
          unfold stepC
          rw [hk, Int.toNat_natCast, List.getElem?_eq_getElem hk8', Option.getD_some, hnk]
        have hps2 : (ps.set k (ps[k].1 + l[j].2, true)).length = 8 := by rw [List.length_set, hps]
        have e4 : IntKind.i64.wrap ((j : Int) + 1) = ((j + 1 : Nat) : Int) := by rw [wrap_i64_id (by omega) (by omega)]; omega
        have hF := s_journal_fine (nums (ps.set k (ps[k].1 + l[j].2, true))) (by rw [nums_len, hps2])
        simp -implicitDefEqProofs only [go_sem, seval, sk, hk, e1, e2, clM_get hk8, Nat.mul_one, hw, clM_cut hk8, hps2, clM_take hps2]
        refine ⟨by omega, ?_⟩
        first | refine call_k hF ?_ | refine call_d hF ?_
        cases c3 : stOK (nums (ps.set k (ps[k].1 + l[j].2, true))) with
        | false =>
          rw [appK_range hj' _ c2 (by rw [hsc, c3]; decide), z8_T]
          simp -implicitDefEqProofs only [go_sem, seval, sk]
        | true =>
          simp -implicitDefEqProofs only [go_sem, seval, sk, e4]
          refine hR (j + 1, ps.set k (ps[k].1 + l[j].2, true)) _ ?_ ⟨by omega, hps2, c3, by rw [hap, appK_step hj' _ c2 (by rw [hsc, c3]), hsc]⟩ (by simp only; omega)
          simp -implicitDefEqProofs only [go_sem, seval, apF]
    · have hj' : ¬ j < l.length := by have := of_decide_eq_false hh; omega
      rw [appK_end hj']
      simp -implicitDefEqProofs only [go_sem, seval, sk, hps, clM_take hps, clM_drop (ws := mk1 true z8) z8_len, List.append_nil]
      exact clM_one _
def byte64 (n : Int) (i : Nat) : BitVec 8 := BitVec.ofNat 8 ((BitVec.ofInt 64 n).toNat / 2 ^ (8 * i))
def le8 (n : Int) : List (BitVec 8) := (List.range 8).map (byte64 n)
theorem le8_len (n : Int) : (le8 n).length = 8 := by simp [le8]
def les (l : List Int) : List (BitVec 8) := (l.map le8).flatten
theorem les_len (l : List Int) : (les l).length = 8 * l.length := by
  unfold les
  induction l with
  | nil => rfl
  | cons x l ih => simp [le8_len, ih]; omega
theorem les_zero (l : List Int) : les (l.take 0) = [] := rfl
theorem les_nil : les [] = [] := rfl
theorem le8_take {n : Int} {i : Nat} (h : i < 8) : (le8 n).take (i + 1) = (le8 n).take i ++ [byte64 n i] := by
  have h' : i < (le8 n).length := by rw [le8_len]; exact h
  rw [← List.take_append_getElem h']
  simp [le8]
theorem les_take {l : List Int} {j : Nat} (h : j < l.length) : les (l.take (j + 1)) = les (l.take j) ++ le8 l[j] := by
  unfold les
  rw [← List.take_append_getElem h, List.map_append, List.flatten_append]
  simp
theorem wrap_u64_int (n : Int) : IntKind.u64.wrap n = (((BitVec.ofInt 64 n).toNat : Nat) : Int) := by
  rw [BitVec.toNat_ofInt]
  have h : (0 : Int) ≤ n % ((2 ^ 64 : Nat) : Int) := Int.emod_nonneg _ (by decide)
  rw [Int.toNat_of_nonneg h]
  rfl
theorem byte64_eq (n : Int) {i : Nat} (h : i < 8) : IntKind.u8.wrap ((IntKind.u64.wrap n).fdiv (2 ^ min (8 * i) 64)) = (((byte64 n i).toNat : Nat) : Int) := by
  rw [wrap_u64_int, show min (8 * i) 64 = 8 * i by omega]
  unfold byte64
  rw [Int.fdiv_eq_ediv_of_nonneg _ (Int.pow_nonneg (by omega))]
  rw [show ((2 : Int) ^ (8 * i)) = ((2 ^ (8 * i) : Nat) : Int) by simp, ← Int.natCast_ediv, wrap_nat8]
theorem s_journal_put (xs : List (BitVec 8)) (l : List Int) (hx : xs.length ≤ 1000000) (hl : l.length ≤ 1000) : SpecAp Try.prog 38 (bT xs) [.sl (iT l)] (bT (les l)) := by
  refine spec_kap (hold mixed) b_journal_put (bT (les l)) (by rw [← bT_append]; exact flat_bT _) (by rw [bT_length, bT_length, les_len]; unfold room; omega) ?_
  simp -implicitDefEqProofs only [go_sem, seval, sk]
  refine loop_l (α := Nat) (fun j => ⟨tmL [(0, .row 0 (8 * j) 0 (xs.length + 8 * j)), (8, .t (.sl (iT l)) false), (9, .t (.i .i64 l.length) true), (10, .t (.i .i64 j) true)], [.row (8 * j) 1 (bT (xs ++ les (l.take j))) true]⟩) (fun j => l.length - j) (fun j => j ≤ l.length) 0 (by simp -implicitDefEqProofs only [go_sem, seval, les_zero, List.take_zero, les_nil, List.append_nil] <;> rfl) (Nat.zero_le _) ?_
  intro j hj R hR
  simp -implicitDefEqProofs only [go_sem, seval, sk]
  refine wcond_mk (fun hh => ?_) (fun hh => ?_)
  · have hj' : j < l.length := by have := of_decide_eq_true hh; omega
    have hjj : (j : Int) < (l.length : Int) := by omega
    simp -implicitDefEqProofs only [go_sem, seval, sk, iT_get hj', eq_true hjj]
    refine loop_l (α := Nat) (fun i => ⟨tmL [(0, .row 0 (8 * j + i) 0 (xs.length + 8 * j + i)), (6, .t (.i .i64 l[j]) false), (8, .t (.sl (iT l)) false), (9, .t (.i .i64 l.length) true), (10, .t (.i .i64 j) true), (14, .t (.i .i64 i) true)], [.row (8 * j + i) 1 (bT (xs ++ les (l.take j) ++ (le8 l[j]).take i)) true]⟩) (fun i => 8 - i) (fun i => i ≤ 8) 0 (by simp -implicitDefEqProofs only [go_sem, seval] <;> rfl) (Nat.zero_le _) ?_
    intro i hi R2 hR2
    simp -implicitDefEqProofs only [go_sem, seval, sk]
    refine wcond_mk (fun hh => ?_) (fun hh => ?_)
    · have hi' : i < 8 := by have := of_decide_eq_true hh; omega
      have e1 : IntKind.i64.wrap (8 * (i : Int)) = ((8 * i : Nat) : Int) := by rw [wrap_i64_id (by omega) (by omega)]; omega
      have e2 : IntKind.i64.wrap ((i : Int) + 1) = ((i + 1 : Nat) : Int) := by rw [wrap_i64_id (by omega) (by omega)]; omega
      simp -implicitDefEqProofs only [go_sem, seval, sk, e1, e2, byte64_eq l[j] hi']
      have hlen : (bT (xs ++ les (List.take j l) ++ List.take i (le8 l[j]))).length = xs.length + 8 * j + i := by
        rw [bT_length, List.length_append, List.length_append, les_len, List.length_take, List.length_take, le8_len]
        omega
      rw [bT_length] at hlen
      refine ⟨⟨okEs_bT [byte64 l[j] i], by omega, by unfold room; omega⟩, hR2 (i + 1) _ ?_ (by omega) (by omega)⟩
      simp -implicitDefEqProofs only [go_sem, seval]
      rw [List.take_of_length_le (show (bT (xs ++ les (List.take j l) ++ List.take i (le8 l[j]))).length ≤ xs.length + 8 * j + i by rw [bT_length]; omega), le8_take hi', ← List.append_assoc, bT_append (_ ++ _ ++ _) [byte64 l[j] i]]
      rfl
    · have hi' : i = 8 := by have := of_decide_eq_false hh; omega
      subst hi'
      have e2 : IntKind.i64.wrap ((j : Int) + 1) = ((j + 1 : Nat) : Int) := by rw [wrap_i64_id (by omega) (by omega)]; omega
      simp -implicitDefEqProofs only [go_sem, seval, sk, e2]
      refine hR (j + 1) _ ?_ (by omega) (by omega)
      simp -implicitDefEqProofs only [go_sem, seval]
      rw [les_take hj', List.take_of_length_le (show (le8 l[j]).length ≤ 8 by rw [le8_len]; exact Nat.le_refl _), ← List.append_assoc]
      rfl
  · have hj' : j = l.length := by have := of_decide_eq_false hh; omega
    subst hj'
    simp -implicitDefEqProofs only [go_sem, seval, sk]
    rw [List.length_append, bT_length, bT_length, les_len, bT_append]
    exact ⟨rfl, rfl⟩
def natL : List (BitVec 8) → Nat
  | [] => 0
  | b :: bs => b.toNat + 256 * natL bs
theorem natL_lt : ∀ bs : List (BitVec 8), natL bs < 2 ^ (8 * bs.length)
  | [] => by simp [natL]
  | b :: bs => by
    have h := natL_lt bs
    have hb := b.isLt
    rw [natL, List.length_cons, show 8 * (bs.length + 1) = 8 * bs.length + 8 by omega, Nat.pow_add]
    omega
theorem natL_app : ∀ (a b : List (BitVec 8)), natL (a ++ b) = natL a + 2 ^ (8 * a.length) * natL b
  | [], b => by simp [natL]
  | x :: a, b => by
    rw [List.cons_append, natL, natL, natL_app a b, List.length_cons, show 8 * (a.length + 1) = 8 * a.length + 8 by omega, Nat.pow_add]
    generalize 2 ^ (8 * a.length) = p
    rw [Nat.mul_add, show p * 2 ^ 8 * natL b = 256 * (p * natL b) by rw [Nat.mul_assoc, Nat.mul_left_comm]]
    omega
def rd8 (b : List (BitVec 8)) : Int := IntKind.i64.wrap (natL (b.take 8) : Int)
theorem u64_id {n : Nat} (h : n < 2 ^ 64) : IntKind.u64.wrap (n : Int) = (n : Int) := by
  rw [wrap_nat64, BitVec.toNat_ofNat, Nat.mod_eq_of_lt h]
theorem of64_id {n : Nat} (h : n < 2 ^ 64) : (BitVec.ofInt 64 (n : Int)).toNat = n := by
  rw [BitVec.ofInt_natCast, BitVec.toNat_ofNat, Nat.mod_eq_of_lt h]
theorem pow_lt64 {x k : Nat} (hx : x < 256) (hk : k < 8) : 2 ^ (8 * k) * x < 2 ^ 64 := by
  have h1 : 2 ^ (8 * k) * x < 2 ^ (8 * k) * 2 ^ 8 := Nat.mul_lt_mul_of_pos_left hx (Nat.two_pow_pos _)
  rw [← Nat.pow_add] at h1
  exact Nat.lt_of_lt_of_le h1 (Nat.pow_le_pow_right (by omega) (by omega))
theorem or_L {a k : Nat} (x : BitVec 8) (ha : a < 2 ^ (8 * k)) (hk : k < 8) :
    ((BitVec.ofInt 64 (a : Int) ||| BitVec.ofInt 64 (IntKind.u64.wrap (IntKind.u64.wrap ((x.toNat : Nat) : Int) * 2 ^ min (8 * k) 64))).toNat : Int) = ((a + 2 ^ (8 * k) * x.toNat : Nat) : Int) := by
  have hx := x.isLt
  have hp := pow_lt64 (x := x.toNat) (k := k) (by omega) hk
  have ha2 : a < 2 ^ 64 := Nat.lt_of_lt_of_le ha (Nat.pow_le_pow_right (by omega) (by omega))
  rw [u64_id (show x.toNat < 2 ^ 64 by omega), show min (8 * k) 64 = 8 * k by omega, show ((x.toNat : Nat) : Int) * 2 ^ (8 * k) = ((2 ^ (8 * k) * x.toNat : Nat) : Int) by rw [Nat.mul_comm (2 ^ (8 * k))]; simp, u64_id hp, BitVec.toNat_or, of64_id ha2, of64_id hp]
  rw [Nat.or_comm, ← Nat.two_pow_add_eq_or_of_lt ha, Nat.add_comm]
theorem natL_take {b : List (BitVec 8)} {k : Nat} (h : k < b.length) : natL (b.take (k + 1)) = natL (b.take k) + 2 ^ (8 * k) * b[k].toNat := by
  rw [← List.take_append_getElem h, natL_app, List.length_take, Nat.min_eq_left (by omega)]
  simp [natL]
theorem s_journal_get (b : List (BitVec 8)) (n : Nat) (hn : n ≤ 1000) (hb : 8 * n + 8 ≤ b.length) : Spec Try.prog 81 [.sl (bT b), .i .i64 n] [] (.t (.i .i64 (rd8 (b.drop (8 * n)))) true) := by
  refine spec_k (hold mixed) b_journal_get [(.i .i64 (rd8 (b.drop (8 * n))), true)] ?_
  simp -implicitDefEqProofs only [go_sem, seval, sk]
  refine loop_l (α := Nat) (fun k => ⟨tmL [(0, .t (.sl (bT b)) false), (1, .t (.i .i64 n) true), (5, .t (.i .u64 (natL ((b.drop (8 * n)).take k))) true), (7, .t (.i .i64 k) true)], []⟩) (fun k => 8 - k) (fun k => k ≤ 8) 0 (by simp -implicitDefEqProofs only [go_sem, seval] <;> rfl) (Nat.zero_le _) ?_
  intro k hk R hR
  simp -implicitDefEqProofs only [go_sem, seval, sk]
  refine wcond_mk (fun hh => ?_) (fun hh => ?_)
  · have hk' : k < 8 := by have := of_decide_eq_true hh; omega
    have e1 : IntKind.i64.wrap (8 * (n : Int)) = ((8 * n : Nat) : Int) := by rw [wrap_i64_id (by omega) (by omega)]; omega
    have e2 : IntKind.i64.wrap (((8 * n : Nat) : Int) + (k : Int)) = ((8 * n + k : Nat) : Int) := by rw [wrap_i64_id (by omega) (by omega)]; omega
    have e3 : IntKind.i64.wrap (8 * (k : Int)) = ((8 * k : Nat) : Int) := by rw [wrap_i64_id (by omega) (by omega)]; omega
    have e4 : IntKind.i64.wrap ((k : Int) + 1) = ((k + 1 : Nat) : Int) := by rw [wrap_i64_id (by omega) (by omega)]; omega
    have hl : 8 * n + k < b.length := by omega
    have e5 : ((8 * n + k : Nat) : Int) < (b.length : Int) := by omega
    simp -implicitDefEqProofs only [go_sem, seval, sk, e1, e2, e3, e4, bT_get hl, eq_true e5]
    refine hR (k + 1) _ ?_ (by omega) (by omega)
    have hdl : k < (b.drop (8 * n)).length := by rw [List.length_drop]; omega
    have ho := or_L (a := natL ((b.drop (8 * n)).take k)) b[8 * n + k] (by
      have := natL_lt ((b.drop (8 * n)).take k)
      rwa [List.length_take, Nat.min_eq_left (by omega)] at this) hk'
    have hnt := natL_take hdl
    rw [List.getElem_drop] at hnt
    rw [← hnt] at ho
    simp -implicitDefEqProofs only [go_sem, seval]
    erw [ho]
  · have hk' : k = 8 := by have := of_decide_eq_false hh; omega
    subst hk'
    simp -implicitDefEqProofs only [go_sem, seval, sk]
    rfl
theorem pow8_succ (k : Nat) : 2 ^ (8 * (k + 1)) = 2 ^ (8 * k) * 256 := by rw [show 8 * (k + 1) = 8 * k + 8 by omega, Nat.pow_add]
theorem bT_nil8 : bT [] = [] := rfl
theorem s_ref06_eight (n : Int) (h0 : -9223372036854775808 ≤ n) (h1 : n ≤ 9223372036854775807) : Spec Try.prog 33 [.i .i64 n] [.row 0 1 (bT (le8 n)) true] (.row 0 0 0 8) := by
  refine spec_ko (hold mixed) b_ref06_eight [.row 0 1 (bT (le8 n)) true] [.row 0 0 0 8] ?_
  simp -implicitDefEqProofs only [go_sem, seval, sk]
  refine loop_l (α := Nat) (fun k => ⟨tmL [(3, .row 0 k 0 k), (4, .t (.i .u64 (((BitVec.ofInt 64 n).toNat / 2 ^ (8 * k) : Nat) : Int)) true), (5, .t (.i .i64 k) true)], [.row k 1 (bT ((le8 n).take k)) true]⟩) (fun k => 8 - k) (fun k => k ≤ 8) 0 (by simp -implicitDefEqProofs only [go_sem, seval, wrap_u64_int, Nat.mul_zero, Nat.pow_zero, Nat.div_one, List.take_zero, bT_nil8] <;> rfl) (Nat.zero_le _) ?_
  intro k hk R hR
  simp -implicitDefEqProofs only [go_sem, seval, sk]
  refine wcond_mk (fun hh => ?_) (fun hh => ?_)
  · have hk' : k < 8 := by have := of_decide_eq_true hh; omega
    have e4 : IntKind.i64.wrap ((k : Int) + 1) = ((k + 1 : Nat) : Int) := by rw [wrap_i64_id (by omega) (by omega)]; omega
    have hN : (BitVec.ofInt 64 n).toNat < 2 ^ 64 := (BitVec.ofInt 64 n).isLt
    have eb : IntKind.u8.wrap ((((BitVec.ofInt 64 n).toNat / 2 ^ (8 * k) : Nat) : Int).tmod 256) = (((byte64 n k).toNat : Nat) : Int) := by
      unfold byte64
      rw [show (256 : Int) = ((256 : Nat) : Int) from rfl, ← Int.ofNat_tmod, wrap_nat8]
      congr 1
      simp
    have eq : IntKind.u64.wrap ((((BitVec.ofInt 64 n).toNat / 2 ^ (8 * k) : Nat) : Int).tdiv 256) = (((BitVec.ofInt 64 n).toNat / 2 ^ (8 * (k + 1)) : Nat) : Int) := by
      rw [show (256 : Int) = ((256 : Nat) : Int) from rfl, ← Int.ofNat_tdiv, Nat.div_div_eq_div_mul, ← pow8_succ k, u64_id (Nat.lt_of_le_of_lt (Nat.div_le_self _ _) hN)]
    have hle := le8_take (n := n) hk'
    simp -implicitDefEqProofs only [go_sem, seval, sk, e4, eb, eq]
    refine ⟨⟨okEs_bT [byte64 n k], by rw [List.length_take, le8_len]; omega, by unfold room; omega⟩, hR (k + 1) _ ?_ (by omega) (by omega)⟩
    simp -implicitDefEqProofs only [go_sem, seval]
    rw [List.take_of_length_le (show (bT (List.take k (le8 n))).length ≤ k by rw [bT_length, List.length_take]; omega), hle, bT_append]
    rfl
  · have hk' : k = 8 := by have := of_decide_eq_false hh; omega
    subst hk'
    rw [List.take_of_length_le (show (le8 n).length ≤ 8 by rw [le8_len]; exact Nat.le_refl _)]
    simp -implicitDefEqProofs only [go_sem, seval, sk]
    refine ends_mk [0] ?_ ?_
    · simp -implicitDefEqProofs only [go_sem, seval]
    · simp -implicitDefEqProofs only [go_sem, seval]
def wrB (m : Int × Int) : List (BitVec 8) := BitVec.ofInt 8 m.1 :: le8 m.2
theorem wrB_len (m : Int × Int) : (wrB m).length = 9 := by simp [wrB, le8_len]
theorem wrap_u8_int (n : Int) : IntKind.u8.wrap n = (((BitVec.ofInt 8 n).toNat : Nat) : Int) := by
  rw [BitVec.toNat_ofInt]
  have h : (0 : Int) ≤ n % ((2 ^ 8 : Nat) : Int) := Int.emod_nonneg _ (by decide)
  rw [Int.toNat_of_nonneg h]
  rfl
theorem le8_bT (n : Int) : (bT (le8 n)).length = 8 := by rw [bT_length, le8_len]
theorem wrB_bT (m : Int × Int) : bT (wrB m) = [.i .u8 (BitVec.ofInt 8 m.1).toNat] :: bT (le8 m.2) := rfl
theorem le8_bT8 (n : Int) : List.take 8 (bT (le8 n)) = bT (le8 n) := List.take_of_length_le (by rw [le8_bT]; exact Nat.le_refl _)
theorem s_ref06_Written (m : Int × Int) (h0 : -9223372036854775808 ≤ m.2) (h1 : m.2 ≤ 9223372036854775807) : Spec Try.prog 10 [.agg (mT m)] [.row 0 1 (bT (wrB m)) true] (.row 0 0 0 9) := by
  refine spec_ko (hold mixed) b_ref06_Written [.row 0 1 (bT (wrB m)) true] [.row 0 0 0 9] ?_
  simp -implicitDefEqProofs only [go_sem, seval, sk, mT]
  refine call_d (s_ref06_eight m.2 h0 h1) ?_ (by simp -implicitDefEqProofs only [go_sem, seval, sk])
  simp -implicitDefEqProofs only [go_sem, seval, sk, wrap_u8_int, le8_bT8, le8_len]
  refine ⟨⟨okEs_bT _, by unfold room; omega⟩, ?_⟩
  refine ends_mk [1] ?_ ?_
  · simp -implicitDefEqProofs only [go_sem, seval, wrB_bT, le8_bT, wrB_len]
    rw [le8_bT8]
  · simp -implicitDefEqProofs only [go_sem, seval]
structure Jr where
  s : Slt
  l : WLog
  c : List Int
  deriving DecidableEq
def Jr.cells (j : Jr) : List T := j.s.cells ++ (j.l.cells ++ clT j.c)
def ptB (j : Jr) : List (BitVec 8) := les (j.l.next :: j.c)
theorem ptB_len {j : Jr} (h8 : j.c.length = 8) : (ptB j).length = 72 := by rw [ptB, les_len, List.length_cons, h8]
theorem les_one (n : Int) : les [n] = le8 n := by simp [les]
theorem les_cons (n : Int) (l : List Int) : les (n :: l) = le8 n ++ les l := by simp [les]
theorem s_journal_point (j : Jr) (h8 : j.c.length = 8) : Spec Try.prog 31 [.agg j.cells] [.row 0 1 (bT (ptB j)) true] (.row 0 0 0 72) := by
  refine spec_ko (hold mixed) b_journal_point [.row 0 1 (bT (ptB j)) true] [.row 0 0 0 72] ?_
  simp -implicitDefEqProofs only [go_sem, seval, sk, Jr.cells, clF_map]
  refine onto_d (bT (le8 j.l.next)) (by have := s_journal_put [] [j.l.next] (by simp) (by simp); rwa [les_one] at this) ?_ (by simp -implicitDefEqProofs only [go_sem, seval, sk]; rfl)
  simp -implicitDefEqProofs only [go_sem, seval, sk, clF_map]
  refine ⟨by omega, ?_⟩
  have ht := clF_take (l := false) h8
  have hp := plains_clF false h8
  have hc := chunk8 h8
  refine over_d (b := true) (bT (les j.c)) (s_journal_put (le8 j.l.next) j.c (by rw [le8_len]; omega) (by omega)) (by simp -implicitDefEqProofs only [go_sem, seval, sk]) (by simp -implicitDefEqProofs only [go_sem, seval, sk]) ?_ (by simp -implicitDefEqProofs only [go_sem, seval, sk, ht, hp, h8, hc, room8]; exact iT_len1 _) (by simp -implicitDefEqProofs only [go_sem, seval, sk])
  simp -implicitDefEqProofs only [go_sem, seval, sk, ← bT_append, ← les_cons]
  refine ends_mk [2] ?_ ?_
  · simp -implicitDefEqProofs only [go_sem, seval]
    rw [show ptB j = les (j.l.next :: j.c) from rfl]
    exact ⟨bT_take_self _, Nat.le_refl _⟩
  · simp -implicitDefEqProofs only [go_sem, seval, le8_len, les_len, h8]
def rdC (b : List (BitVec 8)) : List Int := (List.range 8).map fun i => rd8 (b.drop (8 * (i + 1)))
theorem rdC_len (b : List (BitVec 8)) : (rdC b).length = 8 := by simp [rdC]
def baseB (b : List (BitVec 8)) : Int × List Int × Bool := if b.length = 72 then (rd8 b, rdC b, decide (0 ≤ rd8 b) && (decide (rd8 b ≤ 1000000000) && stOK (rdC b))) else (0, z8, false)
def baseV (s : Slt) : Int × List Int × Bool := match newO s with
  | none => (0, z8, true)
  | some r => baseB r.data
theorem baseV_len (s : Slt) : (baseV s).2.1.length = 8 := by
  unfold baseV
  split
  · rfl
  · unfold baseB
    split
    · exact rdC_len _
    · rfl
def opB (p : Int × List Int × Bool) : List (T × Bool) := [(.i .i64 p.1, true), (.agg (clT p.2.1), true), (.b p.2.2, true)]
attribute [go_sem] opB
def rdP (k : Nat) (b : List (BitVec 8)) : List (Int × Bool) := (List.range 8).map fun i => if i < k then (rd8 (b.drop (8 * (i + 1))), true) else (0, true)
theorem rdP_len (k : Nat) (b : List (BitVec 8)) : (rdP k b).length = 8 := by simp [rdP]
theorem rdP_all (b : List (BitVec 8)) : rdP 8 b = mk1 true (rdC b) := by rfl
theorem rdP_set {k : Nat} (b : List (BitVec 8)) (h : k < 8) : (rdP k b).set k (rd8 (b.drop (8 * (k + 1))), true) = rdP (k + 1) b := by
  rcases (by omega : k = 0 ∨ k = 1 ∨ k = 2 ∨ k = 3 ∨ k = 4 ∨ k = 5 ∨ k = 6 ∨ k = 7) with rfl | rfl | rfl | rfl | rfl | rfl | rfl | rfl <;> rfl
def jbF (s : Slt) (b : List (BitVec 8)) (k : Nat) : S := ⟨tmL [(3, .ptr 1 0), (6, .t (.sl (bT b)) true), (26, .t (.i .i64 k) true)], [.var (s.cells.map fun x => .t x false), .var (clM (rdP k b))]⟩
theorem s_journal_base (s : Slt) (hs : s.fine) (h : s.ok) : Spec Try.prog 56 [.agg s.cells] [] (resV ((opB (baseV s)).map AV.ofT)) := by
  refine spec_k (hold mixed) b_journal_base (opB (baseV s)) ?_
  have hL := s_slots_Load s hs
  cases hn : newO s with
  | none =>
    have hl : loadS s = (0, [], 6) := by simp only [loadS, if_pos h, hn]
    have hb : baseV s = (0, z8, true) := by simp only [baseV, hn]
    rw [hl] at hL
    rw [hb]
    simp -implicitDefEqProofs only [go_sem, seval, sk]
    first | refine call_k hL ?_ | refine call_d hL ?_
    simp -implicitDefEqProofs only [go_sem, seval, sk, z8_T]
  | some r =>
    have hl : loadS s = (r.num, r.data, 0) := by simp only [loadS, if_pos h, hn]
    have hb : baseV s = baseB r.data := by simp only [baseV, hn]
    rw [hl] at hL
    rw [hb]
    generalize r.data = b at *
    simp -implicitDefEqProofs only [go_sem, seval, sk]
    first | refine call_k hL ?_ | refine call_d hL ?_
    by_cases h72 : b.length = 72
    · rw [show baseB b = _ from if_pos h72]
      have e72 : ((b.length : Int) != 72) = false := by simp; omega
      simp -implicitDefEqProofs only [go_sem, seval, sk, e72]
      refine loop_l (α := Nat) (jbF s b) (fun k => 8 - k) (fun k => k ≤ 8) 0 (by simp -implicitDefEqProofs only [go_sem, seval, jbF]; rfl) (Nat.zero_le _) ?_
      intro k hk R hR
      simp -implicitDefEqProofs only [go_sem, seval, sk, jbF]
      refine wcond_mk (fun hh => ?_) (fun hh => ?_)
      · have hk' : k < 8 := by have := of_decide_eq_true hh; omega
        have e1 : IntKind.i64.wrap ((k : Int) + 1) = ((k + 1 : Nat) : Int) := by rw [wrap_i64_id (by omega) (by omega)]; omega
        have e2 : ((k : Int) < 8) = True := eq_true (by omega)
        have e3 : ((0 : Int) ≤ (k : Int)) = True := eq_true (by omega)
        have hG := s_journal_get b (k + 1) (by omega) (by omega)
        have hkl : k < (rdP k b).length := by rw [rdP_len]; exact hk'
        simp -implicitDefEqProofs only [go_sem, seval, sk, e1, e2]
        first | refine call_k hG ?_ | refine call_d hG ?_
        simp -implicitDefEqProofs only [go_sem, seval, sk, e1, e2, e3, clM_get hkl, Nat.mul_one, clM_cut hkl, rdP_set b hk']
        exact ⟨by rw [rdP_len]; omega, hR (k + 1) _ (by simp -implicitDefEqProofs only [go_sem, seval, jbF]) (by omega) (by omega)⟩
      · have hk' : k = 8 := by have := of_decide_eq_false hh; omega
        subst hk'
        have hG := s_journal_get b 0 (by omega) (by omega)
        rw [Nat.mul_zero, List.drop_zero, Int.natCast_zero] at hG
        have hc8 := rdC_len b
        simp -implicitDefEqProofs only [go_sem, seval, sk, rdP_all, ← clF_M]
        generalize rdC b = c at *
        have hF := s_journal_fine c hc8
        have ht := clF_take (l := true) hc8
        have hd := clF_drop (l := true) hc8
        first | refine call_k hG ?_ | refine call_d hG ?_
        by_cases c1 : 0 ≤ rd8 b
        · by_cases c2 : rd8 b ≤ 1000000000
          · simp -implicitDefEqProofs only [go_sem, seval, sk, eq_true c1, eq_true c2, hc8, ht, hd, List.append_nil]
            first | refine call_k hF ?_ (by simp -implicitDefEqProofs only [go_sem, seval, sk, ht]) | refine call_d hF ?_ (by simp -implicitDefEqProofs only [go_sem, seval, sk, ht])
            simp -implicitDefEqProofs only [go_sem, seval, sk, hc8, ht, hd, List.append_nil]
            exact ⟨clF_one _ _, by simp [c1, c2]⟩
          · simp -implicitDefEqProofs only [go_sem, seval, sk, eq_true c1, eq_false c2, hc8, ht, hd, List.append_nil]
            exact clF_one _ _
        · simp -implicitDefEqProofs only [go_sem, seval, sk, eq_false c1, hc8, ht, hd, List.append_nil]
          exact clF_one _ _
    · have e72 : ((b.length : Int) != 72) = true := by simp; omega
      rw [show baseB b = _ from if_neg h72]
      simp -implicitDefEqProofs only [go_sem, seval, sk, e72, z8_T]
theorem z8L : z8.length = 8 := rfl
theorem z8D (l : Bool) : List.drop 8 (clF l z8) = [] := rfl
end Go.Proofs.Ytlfpafdkegnkoaa.Pm
