/- Texts of this proof in one file: PmQj, PmEa, PmEb, PmEc, PmEd, PmEe, PmEf. No law of Go's is stated here. -/
import Derived.Test.YtlfpafdkegnkoaaGreatPmMd
import Derived.Test.YtlfpafdkegnkoaaGreatPmMc
import Derived.Test.YtlfpafdkegnkoaaGreatPmMg
import Derived.Test.YtlfpafdkegnkoaaGreatPmMi
import Derived.Test.YtlfpafdkegnkoaaGreatPmMk
import Derived.Test.YtlfpafdkegnkoaaGreatPmMe
set_option linter.all false
set_option maxRecDepth 100000
namespace Go.Proofs.YtlfpafdkegnkoaaGreat.Pm
open Go Go.RowKit
def c_ref06_Great : C := (.seq (.seq (.reg ([⟨some 1, .box 32 (.tmp 0), none⟩, ⟨some 2, .assign (.const (.bool false)), none⟩])) (.keep [1])) (.seq (.seq (.reg ([⟨some 3, .fieldAddr 32 (.tmp 1) 0, none⟩, ⟨some 4, .load 27 (.tmp 3), none⟩, ⟨some 5, .call { callee := .value (.func 32), args := #[(.tmp 4)], argTypes := #[27] }, none⟩, ⟨some 6, .move (.tmp 5), none⟩, ⟨some 7, .fieldAddr 32 (.tmp 1) 1, some (6, false)⟩, ⟨some 8, .fieldAddr 29 (.tmp 7) 0, some (6, false)⟩, ⟨some 9, .load 24 (.tmp 8), some (6, false)⟩, ⟨some 10, .call { callee := .value (.func 33), args := #[(.tmp 9)], argTypes := #[24] }, some (6, false)⟩, ⟨some 11, .pick (.tmp 6) (.const (.bool true)) (.tmp 10), none⟩, ⟨some 2, .assign (.tmp 11), none⟩])) (.keep [2])) .ret))
attribute [go_sem ↓] c_ref06_Great
def h_ref06_Great : List Hint := [⟨[], [1], []⟩, ⟨[], [2], []⟩]
theorem b_ref06_Great : Body Tryz.prog 7 [] h_ref06_Great c_ref06_Great 12 [.tmp 2] := body_of Tryz.func7 (by kernel_rfl) (by kernel_rfl) (by kernel_rfl) (by kernel_rfl)
def c_journal_New : C := (.seq (.seq (.reg ([⟨some 2, .alloc 32, none⟩, ⟨some 3, .assign (.const (.int .i64 0)), none⟩])) (.keep [0, 2])) (.seq (.seq (.reg ([⟨some 10, .move (.tmp 0), none⟩, ⟨some 11, .call { callee := .value (.func 36), args := #[(.tmp 10)], argTypes := #[3] }, none⟩, ⟨some 9, .move (.tmp 11), none⟩, ⟨some 12, .extract (.tmp 9) 0, none⟩, ⟨some 13, .extract (.tmp 9) 1, none⟩, ⟨some 4, .alloc 27, none⟩, ⟨none, .store 27 (.tmp 4) (.tmp 12), none⟩, ⟨some 5, .assign (.tmp 13), none⟩])) (.keep [0, 2, 4, 5])) (.seq (.seq (.seq (.reg ([⟨some 14, .move (.tmp 5), none⟩, ⟨some 15, .binOp .neq 38 (.tmp 14) (.const (.int .i64 0)) 38, none⟩])) (.keep [0, 2, 4, 5, 15])) (.cond (.tmp 15) (.seq (.seq (.reg ([⟨some 16, .build 32 #[], none⟩, ⟨some 17, .move (.tmp 5), none⟩, ⟨none, .store 32 (.tmp 2) (.tmp 16), none⟩, ⟨some 3, .assign (.tmp 17), none⟩])) (.keep [2, 3])) .ret) .skip)) (.seq (.seq (.reg ([⟨some 19, .move (.tmp 0), none⟩, ⟨some 20, .call { callee := .value (.func 37), args := #[(.tmp 19)], argTypes := #[3] }, none⟩, ⟨some 18, .move (.tmp 20), none⟩, ⟨some 21, .extract (.tmp 18) 0, none⟩, ⟨some 22, .extract (.tmp 18) 1, none⟩, ⟨some 6, .alloc 24, none⟩, ⟨none, .store 24 (.tmp 6) (.tmp 21), none⟩, ⟨some 7, .assign (.tmp 22), none⟩])) (.keep [2, 4, 6])) (.seq (.seq (.reg ([⟨some 24, .load 24 (.tmp 6), none⟩, ⟨some 25, .call { callee := .value (.func 38), args := #[(.tmp 24), (.const (.int .i64 0))], argTypes := #[24, 3] }, none⟩, ⟨some 23, .move (.tmp 25), none⟩, ⟨some 26, .extract (.tmp 23) 0, none⟩, ⟨some 27, .extract (.tmp 23) 1, none⟩, ⟨some 8, .alloc 29, none⟩, ⟨none, .store 29 (.tmp 8) (.tmp 26), none⟩, ⟨some 5, .assign (.tmp 27), none⟩])) (.keep [2, 4, 5, 8])) (.seq (.seq (.reg ([⟨some 28, .load 27 (.tmp 4), none⟩, ⟨some 29, .load 29 (.tmp 8), none⟩, ⟨some 30, .build 32 #[(0, (.tmp 28)), (1, (.tmp 29))], none⟩, ⟨some 31, .move (.tmp 5), none⟩, ⟨none, .store 32 (.tmp 2) (.tmp 30), none⟩, ⟨some 3, .assign (.tmp 31), none⟩])) (.keep [2, 3])) .ret))))))
attribute [go_sem ↓] c_journal_New
def h_journal_New : List Hint := [⟨[], [0, 2], []⟩, ⟨[], [0, 2, 4, 5], []⟩, ⟨[], [0, 2, 4, 5, 15], []⟩, ⟨[], [2, 3], []⟩, ⟨[], [2, 4, 6], []⟩, ⟨[], [2, 4, 5, 8], []⟩, ⟨[], [2, 3], []⟩]
theorem b_journal_New : Body Tryz.prog 9 [] h_journal_New c_journal_New 32 [.cell 2 32, .tmp 3] := body_of Tryz.func9 (by kernel_rfl) (by kernel_rfl) (by kernel_rfl) (by kernel_rfl)
def c_journal_Apply : C := (.seq (.seq (.reg ([⟨some 2, .box 30 (.tmp 0), none⟩, ⟨some 4, .alloc 30, none⟩, ⟨some 5, .assign (.const (.int .i64 0)), none⟩])) (.keep [1, 2, 4])) (.seq (.seq (.seq (.reg ([⟨some 8, .load 30 (.tmp 2), none⟩, ⟨some 9, .call { callee := .value (.func 40), args := #[(.tmp 8)], argTypes := #[30] }, none⟩, ⟨some 10, .unOp .not 4 (.tmp 9), none⟩])) (.keep [1, 2, 4, 10])) (.cond (.tmp 10) (.seq (.seq (.reg ([⟨some 11, .build 30 #[], none⟩, ⟨none, .store 30 (.tmp 4) (.tmp 11), none⟩, ⟨some 5, .assign (.const (.int .i64 8)), none⟩])) (.keep [4, 5])) .ret) .skip)) (.seq (.seq (.seq (.reg ([⟨some 12, .move (.tmp 1), none⟩, ⟨some 13, .call { callee := .builtin .len, args := #[(.tmp 12)], argTypes := #[35] }, none⟩, ⟨some 14, .move (.const (.int .i64 0)), none⟩])) (.keep [2, 4, 12, 13, 14])) (.block 0 (.loop [] [2, 4, 12, 13, 14] (.seq (.seq (.reg ([⟨some 15, .binOp .lss 3 (.tmp 14) (.tmp 13) 3, none⟩])) (.keep [2, 4, 12, 13, 14, 15])) (.seq (.cond (.tmp 15) .skip (.exit 0)) (.seq (.block 1 (.seq (.seq (.reg ([⟨some 16, .indexAddr 35 (.tmp 12) (.tmp 14), none⟩, ⟨some 17, .load 34 (.tmp 16), none⟩, ⟨some 7, .alloc 34, none⟩, ⟨none, .store 34 (.tmp 7) (.tmp 17), none⟩])) (.keep [2, 4, 7, 12, 13, 14])) (.seq (.seq (.seq (.reg ([⟨some 18, .load 34 (.tmp 7), none⟩, ⟨some 19, .call { callee := .value (.func 41), args := #[(.tmp 18)], argTypes := #[34] }, none⟩, ⟨some 20, .unOp .not 4 (.tmp 19), none⟩])) (.keep [2, 4, 7, 12, 13, 14, 20])) (.cond (.tmp 20) (.seq (.seq (.reg ([⟨some 21, .build 30 #[], none⟩, ⟨none, .store 30 (.tmp 4) (.tmp 21), none⟩, ⟨some 5, .assign (.const (.int .i64 2)), none⟩])) (.keep [4, 5])) .ret) .skip)) (.seq (.seq (.draw ([⟨⟨some 22, .fieldAddr 34 (.tmp 7) 0, none⟩, []⟩, ⟨⟨some 23, .load 3 (.tmp 22), none⟩, []⟩, ⟨⟨some 24, .indexAddr 30 (.tmp 2) (.tmp 23), none⟩, []⟩, ⟨⟨some 25, .load 3 (.tmp 24), none⟩, []⟩, ⟨⟨some 26, .fieldAddr 34 (.tmp 7) 1, none⟩, [0, 1, 2, 3]⟩, ⟨⟨some 27, .load 3 (.tmp 26), none⟩, [0, 1, 2, 3]⟩, ⟨⟨some 28, .binOp .add 3 (.tmp 25) (.tmp 27) 3, none⟩, []⟩, ⟨⟨some 29, .indexAddr 30 (.tmp 2) (.tmp 23), none⟩, []⟩, ⟨⟨none, .store 3 (.tmp 29) (.tmp 28), none⟩, []⟩])) (.keep [2, 4, 12, 13, 14])) (.seq (.seq (.reg ([⟨some 30, .load 30 (.tmp 2), none⟩, ⟨some 31, .call { callee := .value (.func 40), args := #[(.tmp 30)], argTypes := #[30] }, none⟩, ⟨some 32, .unOp .not 4 (.tmp 31), none⟩])) (.keep [2, 4, 12, 13, 14, 32])) (.cond (.tmp 32) (.seq (.seq (.reg ([⟨some 33, .build 30 #[], none⟩, ⟨none, .store 30 (.tmp 4) (.tmp 33), none⟩, ⟨some 5, .assign (.const (.int .i64 16)), none⟩])) (.keep [4, 5])) .ret) .skip)))))) (.seq (.reg ([⟨some 34, .binOp .add 3 (.tmp 14) (.const (.int .i64 1)) 3, none⟩, ⟨some 14, .move (.tmp 34), none⟩])) (.keep [2, 4, 12, 13, 14])))))))) (.seq (.seq (.reg ([⟨some 35, .load 30 (.tmp 2), none⟩, ⟨none, .store 30 (.tmp 4) (.tmp 35), none⟩, ⟨some 5, .assign (.const (.int .i64 0)), none⟩])) (.keep [4, 5])) .ret))))
attribute [go_sem ↓] c_journal_Apply
def h_journal_Apply : List Hint := [⟨[], [1, 2, 4], []⟩, ⟨[], [1, 2, 4, 10], []⟩, ⟨[], [4, 5], []⟩, ⟨[], [2, 4, 12, 13, 14], []⟩, ⟨[], [2, 4, 12, 13, 14], []⟩, ⟨[], [2, 4, 12, 13, 14, 15], []⟩, ⟨[], [2, 4, 7, 12, 13, 14], []⟩, ⟨[], [2, 4, 7, 12, 13, 14, 20], []⟩, ⟨[], [4, 5], []⟩, ⟨[], [2, 4, 12, 13, 14], []⟩, ⟨[], [2, 4, 12, 13, 14, 32], []⟩, ⟨[], [4, 5], []⟩, ⟨[], [2, 4, 12, 13, 14], []⟩, ⟨[], [4, 5], []⟩]
theorem b_journal_Apply : Body Tryz.prog 11 [] h_journal_Apply c_journal_Apply 36 [.cell 4 30, .tmp 5] := body_of Tryz.func11 (by kernel_rfl) (by kernel_rfl) (by kernel_rfl) (by kernel_rfl)
def c_ref06_Apply : C := (.seq (.seq (.reg ([⟨some 2, .box 30 (.tmp 0), none⟩, ⟨some 4, .alloc 30, none⟩, ⟨some 5, .assign (.const (.int .i64 0)), none⟩])) (.keep [1, 2, 4])) (.seq (.seq (.seq (.reg ([⟨some 7, .load 30 (.tmp 2), none⟩, ⟨some 8, .call { callee := .value (.func 42), args := #[(.tmp 7)], argTypes := #[30] }, none⟩, ⟨some 9, .unOp .not 4 (.tmp 8), none⟩])) (.keep [1, 2, 4, 9])) (.cond (.tmp 9) (.seq (.seq (.reg ([⟨some 10, .build 30 #[], none⟩, ⟨none, .store 30 (.tmp 4) (.tmp 10), none⟩, ⟨some 5, .assign (.const (.int .i64 8)), none⟩])) (.keep [4, 5])) .ret) .skip)) (.seq (.seq (.seq (.reg ([⟨some 6, .assign (.const (.int .i64 0)), none⟩])) (.keep [1, 2, 4, 6])) (.block 0 (.loop [] [1, 2, 4, 6] (.seq (.seq (.seq (.reg ([⟨some 11, .move (.tmp 6), none⟩, ⟨some 12, .move (.tmp 1), none⟩, ⟨some 13, .call { callee := .builtin .len, args := #[(.tmp 12)], argTypes := #[35] }, none⟩, ⟨some 14, .binOp .lss 3 (.tmp 11) (.tmp 13) 3, none⟩])) (.keep [1, 2, 4, 6, 14])) (.cond (.tmp 14) .skip (.exit 0))) (.seq (.block 1 (.seq (.seq (.seq (.reg ([⟨some 17, .move (.tmp 1), none⟩, ⟨some 18, .move (.tmp 6), none⟩, ⟨some 19, .indexAddr 35 (.tmp 17) (.tmp 18), none⟩, ⟨some 20, .load 34 (.tmp 19), none⟩, ⟨some 21, .call { callee := .value (.func 24), args := #[(.tmp 20)], argTypes := #[34] }, none⟩, ⟨some 22, .unOp .not 4 (.tmp 21), none⟩])) (.keep [1, 2, 4, 6, 22])) (.cond (.tmp 22) (.seq (.seq (.reg ([⟨some 23, .build 30 #[], none⟩, ⟨none, .store 30 (.tmp 4) (.tmp 23), none⟩, ⟨some 5, .assign (.const (.int .i64 2)), none⟩])) (.keep [4, 5])) .ret) .skip)) (.seq (.seq (.draw ([⟨⟨some 24, .move (.tmp 1), none⟩, []⟩, ⟨⟨some 25, .move (.tmp 6), none⟩, [0]⟩, ⟨⟨some 26, .indexAddr 35 (.tmp 24) (.tmp 25), none⟩, []⟩, ⟨⟨some 27, .fieldAddr 34 (.tmp 26) 0, none⟩, []⟩, ⟨⟨some 28, .load 3 (.tmp 27), none⟩, []⟩, ⟨⟨some 29, .indexAddr 30 (.tmp 2) (.tmp 28), none⟩, []⟩, ⟨⟨some 30, .load 3 (.tmp 29), none⟩, []⟩, ⟨⟨some 31, .move (.tmp 1), none⟩, [0, 1, 2, 3, 4, 5, 6]⟩, ⟨⟨some 32, .move (.tmp 6), none⟩, [0, 1, 2, 3, 4, 5, 6, 7]⟩, ⟨⟨some 33, .indexAddr 35 (.tmp 31) (.tmp 32), none⟩, [0, 1, 2, 3, 4, 5, 6]⟩, ⟨⟨some 34, .fieldAddr 34 (.tmp 33) 1, none⟩, [0, 1, 2, 3, 4, 5, 6]⟩, ⟨⟨some 35, .load 3 (.tmp 34), none⟩, [0, 1, 2, 3, 4, 5, 6]⟩, ⟨⟨some 36, .binOp .add 3 (.tmp 30) (.tmp 35) 3, none⟩, []⟩, ⟨⟨some 37, .indexAddr 30 (.tmp 2) (.tmp 28), none⟩, []⟩, ⟨⟨none, .store 3 (.tmp 37) (.tmp 36), none⟩, []⟩])) (.keep [1, 2, 4, 6])) (.seq (.seq (.reg ([⟨some 38, .load 30 (.tmp 2), none⟩, ⟨some 39, .call { callee := .value (.func 42), args := #[(.tmp 38)], argTypes := #[30] }, none⟩, ⟨some 40, .unOp .not 4 (.tmp 39), none⟩])) (.keep [1, 2, 4, 6, 40])) (.cond (.tmp 40) (.seq (.seq (.reg ([⟨some 41, .build 30 #[], none⟩, ⟨none, .store 30 (.tmp 4) (.tmp 41), none⟩, ⟨some 5, .assign (.const (.int .i64 16)), none⟩])) (.keep [4, 5])) .ret) .skip))))) (.seq (.reg ([⟨some 15, .move (.tmp 6), none⟩, ⟨some 16, .binOp .add 3 (.tmp 15) (.const (.int .i64 1)) 3, none⟩, ⟨some 6, .assign (.tmp 16), none⟩])) (.keep [1, 2, 4, 6]))))))) (.seq (.seq (.reg ([⟨some 42, .load 30 (.tmp 2), none⟩, ⟨none, .store 30 (.tmp 4) (.tmp 42), none⟩, ⟨some 5, .assign (.const (.int .i64 0)), none⟩])) (.keep [4, 5])) .ret))))
attribute [go_sem ↓] c_ref06_Apply
def h_ref06_Apply : List Hint := [⟨[], [1, 2, 4], []⟩, ⟨[], [1, 2, 4, 9], []⟩, ⟨[], [4, 5], []⟩, ⟨[], [1, 2, 4, 6], []⟩, ⟨[], [1, 2, 4, 6], []⟩, ⟨[], [1, 2, 4, 6, 14], []⟩, ⟨[], [1, 2, 4, 6, 22], []⟩, ⟨[], [4, 5], []⟩, ⟨[], [1, 2, 4, 6], []⟩, ⟨[], [1, 2, 4, 6, 40], []⟩, ⟨[], [4, 5], []⟩, ⟨[], [1, 2, 4, 6], []⟩, ⟨[], [4, 5], []⟩]
theorem b_ref06_Apply : Body Tryz.prog 12 [] h_ref06_Apply c_ref06_Apply 43 [.cell 4 30, .tmp 5] := body_of Tryz.func12 (by kernel_rfl) (by kernel_rfl) (by kernel_rfl) (by kernel_rfl)
def c_journal_Do : C := (.seq (.seq (.reg ([⟨some 2, .box 32 (.tmp 0), none⟩, ⟨some 3, .box 34 (.tmp 1), none⟩, ⟨some 4, .alloc 32, none⟩, ⟨some 5, .assign (.const (.int .i64 0)), none⟩, ⟨some 6, .assign (.const (.int .i64 0)), none⟩])) (.keep [2, 3, 4])) (.seq (.seq (.seq (.reg ([⟨some 12, .load 32 (.tmp 2), none⟩, ⟨some 13, .call { callee := .value (.func 20), args := #[(.tmp 12)], argTypes := #[32] }, none⟩, ⟨some 7, .assign (.tmp 13), none⟩])) (.keep [2, 3, 4, 7])) (.seq (.seq (.reg ([⟨some 14, .move (.tmp 7), none⟩, ⟨some 15, .binOp .neq 38 (.tmp 14) (.const (.int .i64 0)) 38, none⟩])) (.keep [2, 3, 4, 7, 15])) (.cond (.tmp 15) (.seq (.seq (.reg ([⟨some 16, .build 32 #[], none⟩, ⟨some 17, .move (.tmp 7), none⟩, ⟨none, .store 32 (.tmp 4) (.tmp 16), none⟩, ⟨some 5, .assign (.const (.int .i64 0)), none⟩, ⟨some 6, .assign (.tmp 17), none⟩])) (.keep [4, 5, 6])) .ret) .skip))) (.seq (.seq (.reg ([⟨some 19, .fieldAddr 32 (.tmp 2) 2, none⟩, ⟨some 20, .load 30 (.tmp 19), none⟩, ⟨some 21, .load 34 (.tmp 3), none⟩, ⟨some 22, .buildSlice 35 1 #[(0, (.tmp 21))], none⟩, ⟨some 23, .call { callee := .value (.func 11), args := #[(.tmp 20), (.tmp 22)], argTypes := #[30, 35] }, none⟩, ⟨some 18, .move (.tmp 23), none⟩, ⟨some 24, .extract (.tmp 18) 0, none⟩, ⟨some 25, .extract (.tmp 18) 1, none⟩, ⟨some 8, .alloc 30, none⟩, ⟨none, .store 30 (.tmp 8) (.tmp 24), none⟩, ⟨some 9, .assign (.tmp 25), none⟩])) (.keep [2, 3, 4, 8, 9])) (.seq (.seq (.seq (.reg ([⟨some 26, .move (.tmp 9), none⟩, ⟨some 27, .binOp .neq 38 (.tmp 26) (.const (.int .i64 0)) 38, none⟩])) (.keep [2, 3, 4, 8, 9, 27])) (.cond (.tmp 27) (.seq (.seq (.reg ([⟨some 28, .build 32 #[], none⟩, ⟨some 29, .move (.tmp 9), none⟩, ⟨none, .store 32 (.tmp 4) (.tmp 28), none⟩, ⟨some 5, .assign (.const (.int .i64 0)), none⟩, ⟨some 6, .assign (.tmp 29), none⟩])) (.keep [4, 5, 6])) .ret) .skip)) (.seq (.seq (.draw ([⟨⟨some 31, .fieldAddr 32 (.tmp 2) 1, none⟩, []⟩, ⟨⟨some 32, .load 29 (.tmp 31), none⟩, []⟩, ⟨⟨some 33, .fieldAddr 34 (.tmp 3) 0, none⟩, [0, 1]⟩, ⟨⟨some 34, .load 3 (.tmp 33), none⟩, [0, 1]⟩, ⟨⟨some 35, .convert 3 5 (.tmp 34), none⟩, [0, 1]⟩, ⟨⟨some 36, .buildSlice 22 1 #[(0, (.tmp 35))], none⟩, [0, 1]⟩, ⟨⟨some 37, .fieldAddr 34 (.tmp 3) 1, none⟩, [0, 1, 2, 3, 4, 5]⟩, ⟨⟨some 38, .load 3 (.tmp 37), none⟩, [0, 1, 2, 3, 4, 5]⟩, ⟨⟨some 39, .buildSlice 131 1 #[(0, (.tmp 38))], none⟩, [0, 1, 2, 3, 4, 5]⟩, ⟨⟨some 40, .call { callee := .value (.func 44), args := #[(.tmp 36), (.tmp 39)], argTypes := #[22, 131] }, none⟩, [0, 1]⟩, ⟨⟨some 41, .call { callee := .value (.func 43), args := #[(.tmp 32), (.tmp 40)], argTypes := #[29, 22] }, none⟩, []⟩, ⟨⟨some 30, .move (.tmp 41), none⟩, []⟩, ⟨⟨some 42, .extract (.tmp 30) 0, none⟩, []⟩, ⟨⟨some 43, .extract (.tmp 30) 1, none⟩, [12]⟩, ⟨⟨some 44, .extract (.tmp 30) 2, none⟩, [12, 13]⟩, ⟨⟨some 10, .alloc 29, none⟩, [0, 1, 2, 3, 4, 5, 6, 7, 8, 9, 10, 11, 12, 13, 14]⟩, ⟨⟨none, .store 29 (.tmp 10) (.tmp 42), none⟩, [13, 14]⟩, ⟨⟨some 11, .assign (.tmp 43), none⟩, [14]⟩, ⟨⟨some 9, .assign (.tmp 44), none⟩, []⟩])) (.keep [2, 4, 8, 9, 10, 11])) (.seq (.seq (.seq (.reg ([⟨some 45, .move (.tmp 9), none⟩, ⟨some 46, .binOp .neq 38 (.tmp 45) (.const (.int .i64 0)) 38, none⟩])) (.keep [2, 4, 8, 9, 10, 11, 46])) (.cond (.tmp 46) (.seq (.seq (.reg ([⟨some 47, .build 32 #[], none⟩, ⟨some 48, .move (.tmp 9), none⟩, ⟨none, .store 32 (.tmp 4) (.tmp 47), none⟩, ⟨some 5, .assign (.const (.int .i64 0)), none⟩, ⟨some 6, .assign (.tmp 48), none⟩])) (.keep [4, 5, 6])) .ret) .skip)) (.seq (.seq (.draw ([⟨⟨some 49, .fieldAddr 32 (.tmp 2) 0, none⟩, []⟩, ⟨⟨some 50, .load 27 (.tmp 49), none⟩, []⟩, ⟨⟨some 51, .call { callee := .value (.func 45), args := #[(.tmp 50)], argTypes := #[27] }, none⟩, []⟩, ⟨⟨some 52, .load 29 (.tmp 10), none⟩, [0, 1, 2]⟩, ⟨⟨some 53, .load 30 (.tmp 8), none⟩, [0, 1, 2, 3]⟩, ⟨⟨some 54, .build 32 #[(0, (.tmp 51)), (1, (.tmp 52)), (2, (.tmp 53))], none⟩, []⟩, ⟨⟨some 55, .move (.tmp 11), none⟩, [0, 1, 2, 3, 4, 5]⟩, ⟨⟨none, .store 32 (.tmp 4) (.tmp 54), none⟩, [6]⟩, ⟨⟨some 5, .assign (.tmp 55), none⟩, []⟩, ⟨⟨some 6, .assign (.const (.int .i64 0)), none⟩, []⟩])) (.keep [4, 5, 6])) .ret)))))))
attribute [go_sem ↓] c_journal_Do
def h_journal_Do : List Hint := [⟨[], [2, 3, 4], []⟩, ⟨[], [2, 3, 4, 7], []⟩, ⟨[], [2, 3, 4, 7, 15], []⟩, ⟨[], [4, 5, 6], []⟩, ⟨[], [2, 3, 4, 8, 9], []⟩, ⟨[], [2, 3, 4, 8, 9, 27], []⟩, ⟨[], [4, 5, 6], []⟩, ⟨[], [2, 4, 8, 9, 10, 11], []⟩, ⟨[], [2, 4, 8, 9, 10, 11, 46], []⟩, ⟨[], [4, 5, 6], []⟩, ⟨[], [4, 5, 6], []⟩]
theorem b_journal_Do : Body Tryz.prog 13 [] h_journal_Do c_journal_Do 56 [.cell 4 32, .tmp 5, .tmp 6] := body_of Tryz.func13 (by kernel_rfl) (by kernel_rfl) (by kernel_rfl) (by kernel_rfl)
def c_journal_Sync : C := (.seq (.seq (.reg ([⟨some 1, .box 32 (.tmp 0), none⟩, ⟨some 2, .alloc 32, none⟩, ⟨some 3, .assign (.const (.int .i64 0)), none⟩])) (.keep [1, 2])) (.seq (.seq (.seq (.reg ([⟨some 7, .load 32 (.tmp 1), none⟩, ⟨some 8, .call { callee := .value (.func 20), args := #[(.tmp 7)], argTypes := #[32] }, none⟩, ⟨some 4, .assign (.tmp 8), none⟩])) (.keep [1, 2, 4])) (.seq (.seq (.reg ([⟨some 9, .move (.tmp 4), none⟩, ⟨some 10, .binOp .neq 38 (.tmp 9) (.const (.int .i64 0)) 38, none⟩])) (.keep [1, 2, 4, 10])) (.cond (.tmp 10) (.seq (.seq (.reg ([⟨some 11, .build 32 #[], none⟩, ⟨some 12, .move (.tmp 4), none⟩, ⟨none, .store 32 (.tmp 2) (.tmp 11), none⟩, ⟨some 3, .assign (.tmp 12), none⟩])) (.keep [2, 3])) .ret) .skip))) (.seq (.seq (.reg ([⟨some 14, .fieldAddr 32 (.tmp 1) 1, none⟩, ⟨some 15, .load 29 (.tmp 14), none⟩, ⟨some 16, .call { callee := .value (.func 49), args := #[(.tmp 15)], argTypes := #[29] }, none⟩, ⟨some 13, .move (.tmp 16), none⟩, ⟨some 17, .extract (.tmp 13) 0, none⟩, ⟨some 18, .extract (.tmp 13) 1, none⟩, ⟨some 5, .alloc 29, none⟩, ⟨none, .store 29 (.tmp 5) (.tmp 17), none⟩, ⟨some 6, .assign (.tmp 18), none⟩])) (.keep [1, 2, 5, 6])) (.seq (.seq (.draw ([⟨⟨some 19, .fieldAddr 32 (.tmp 1) 0, none⟩, []⟩, ⟨⟨some 20, .load 27 (.tmp 19), none⟩, []⟩, ⟨⟨some 21, .call { callee := .value (.func 45), args := #[(.tmp 20)], argTypes := #[27] }, none⟩, []⟩, ⟨⟨some 22, .load 29 (.tmp 5), none⟩, [0, 1, 2]⟩, ⟨⟨some 23, .fieldAddr 32 (.tmp 1) 2, none⟩, [0, 1, 2, 3]⟩, ⟨⟨some 24, .load 30 (.tmp 23), none⟩, [0, 1, 2, 3]⟩, ⟨⟨some 25, .build 32 #[(0, (.tmp 21)), (1, (.tmp 22)), (2, (.tmp 24))], none⟩, []⟩, ⟨⟨some 26, .move (.tmp 6), none⟩, [0, 1, 2, 3, 4, 5, 6]⟩, ⟨⟨none, .store 32 (.tmp 2) (.tmp 25), none⟩, [7]⟩, ⟨⟨some 3, .assign (.tmp 26), none⟩, []⟩])) (.keep [2, 3])) .ret))))
attribute [go_sem ↓] c_journal_Sync
def h_journal_Sync : List Hint := [⟨[], [1, 2], []⟩, ⟨[], [1, 2, 4], []⟩, ⟨[], [1, 2, 4, 10], []⟩, ⟨[], [2, 3], []⟩, ⟨[], [1, 2, 5, 6], []⟩, ⟨[], [2, 3], []⟩]
theorem b_journal_Sync : Body Tryz.prog 16 [] h_journal_Sync c_journal_Sync 27 [.cell 2 32, .tmp 3] := body_of Tryz.func16 (by kernel_rfl) (by kernel_rfl) (by kernel_rfl) (by kernel_rfl)
def c_journal_Save : C := (.seq (.seq (.reg ([⟨some 1, .box 32 (.tmp 0), none⟩, ⟨some 2, .alloc 32, none⟩, ⟨some 3, .assign (.const (.int .i64 0)), none⟩])) (.keep [1, 2])) (.seq (.seq (.seq (.reg ([⟨some 10, .load 32 (.tmp 1), none⟩, ⟨some 11, .call { callee := .value (.func 20), args := #[(.tmp 10)], argTypes := #[32] }, none⟩, ⟨some 4, .assign (.tmp 11), none⟩])) (.keep [1, 2, 4])) (.seq (.seq (.reg ([⟨some 12, .move (.tmp 4), none⟩, ⟨some 13, .binOp .neq 38 (.tmp 12) (.const (.int .i64 0)) 38, none⟩])) (.keep [1, 2, 4, 13])) (.cond (.tmp 13) (.seq (.seq (.reg ([⟨some 14, .build 32 #[], none⟩, ⟨some 15, .move (.tmp 4), none⟩, ⟨none, .store 32 (.tmp 2) (.tmp 14), none⟩, ⟨some 3, .assign (.tmp 15), none⟩])) (.keep [2, 3])) .ret) .skip))) (.seq (.seq (.draw ([⟨⟨some 17, .fieldAddr 32 (.tmp 1) 0, none⟩, []⟩, ⟨⟨some 18, .load 27 (.tmp 17), none⟩, []⟩, ⟨⟨some 19, .load 32 (.tmp 1), none⟩, [0, 1]⟩, ⟨⟨some 20, .call { callee := .value (.func 52), args := #[(.tmp 19)], argTypes := #[32] }, none⟩, [0, 1]⟩, ⟨⟨some 21, .call { callee := .value (.func 51), args := #[(.tmp 18), (.tmp 20)], argTypes := #[27, 22] }, none⟩, []⟩, ⟨⟨some 16, .move (.tmp 21), none⟩, []⟩, ⟨⟨some 22, .extract (.tmp 16) 0, none⟩, []⟩, ⟨⟨some 23, .extract (.tmp 16) 1, none⟩, [6]⟩, ⟨⟨some 24, .extract (.tmp 16) 2, none⟩, [6, 7]⟩, ⟨⟨some 5, .alloc 27, none⟩, [0, 1, 2, 3, 4, 5, 6, 7, 8]⟩, ⟨⟨none, .store 27 (.tmp 5) (.tmp 22), none⟩, [7, 8]⟩, ⟨⟨some 6, .assign (.tmp 23), none⟩, [8]⟩, ⟨⟨some 7, .assign (.tmp 24), none⟩, []⟩])) (.keep [1, 2, 5, 7])) (.seq (.seq (.seq (.reg ([⟨some 25, .move (.tmp 7), none⟩, ⟨some 26, .binOp .neq 38 (.tmp 25) (.const (.int .i64 0)) 38, none⟩])) (.keep [1, 2, 5, 7, 26])) (.cond (.tmp 26) (.seq (.seq (.reg ([⟨some 27, .build 32 #[], none⟩, ⟨some 28, .move (.tmp 7), none⟩, ⟨none, .store 32 (.tmp 2) (.tmp 27), none⟩, ⟨some 3, .assign (.tmp 28), none⟩])) (.keep [2, 3])) .ret) .skip)) (.seq (.seq (.reg ([⟨some 30, .fieldAddr 32 (.tmp 1) 1, none⟩, ⟨some 31, .load 29 (.tmp 30), none⟩, ⟨some 32, .call { callee := .value (.func 49), args := #[(.tmp 31)], argTypes := #[29] }, none⟩, ⟨some 29, .move (.tmp 32), none⟩, ⟨some 33, .extract (.tmp 29) 0, none⟩, ⟨some 34, .extract (.tmp 29) 1, none⟩, ⟨some 8, .alloc 29, none⟩, ⟨none, .store 29 (.tmp 8) (.tmp 33), none⟩, ⟨some 9, .assign (.tmp 34), none⟩])) (.keep [1, 2, 5, 8])) (.seq (.seq (.reg ([⟨some 36, .load 29 (.tmp 8), none⟩, ⟨some 37, .fieldAddr 29 (.tmp 8) 2, none⟩, ⟨some 38, .load 3 (.tmp 37), none⟩, ⟨some 39, .call { callee := .value (.func 53), args := #[(.tmp 36), (.tmp 38)], argTypes := #[29, 3] }, none⟩, ⟨some 35, .move (.tmp 39), none⟩, ⟨some 40, .extract (.tmp 35) 0, none⟩, ⟨some 41, .extract (.tmp 35) 1, none⟩, ⟨none, .store 29 (.tmp 8) (.tmp 40), none⟩, ⟨some 7, .assign (.tmp 41), none⟩])) (.keep [1, 2, 5, 7, 8])) (.seq (.seq (.reg ([⟨some 42, .load 27 (.tmp 5), none⟩, ⟨some 43, .load 29 (.tmp 8), none⟩, ⟨some 44, .fieldAddr 32 (.tmp 1) 2, none⟩, ⟨some 45, .load 30 (.tmp 44), none⟩, ⟨some 46, .build 32 #[(0, (.tmp 42)), (1, (.tmp 43)), (2, (.tmp 45))], none⟩, ⟨some 47, .move (.tmp 7), none⟩, ⟨none, .store 32 (.tmp 2) (.tmp 46), none⟩, ⟨some 3, .assign (.tmp 47), none⟩])) (.keep [2, 3])) .ret)))))))
attribute [go_sem ↓] c_journal_Save
def h_journal_Save : List Hint := [⟨[], [1, 2], []⟩, ⟨[], [1, 2, 4], []⟩, ⟨[], [1, 2, 4, 13], []⟩, ⟨[], [2, 3], []⟩, ⟨[], [1, 2, 5, 7], []⟩, ⟨[], [1, 2, 5, 7, 26], []⟩, ⟨[], [2, 3], []⟩, ⟨[], [1, 2, 5, 8], []⟩, ⟨[], [1, 2, 5, 7, 8], []⟩, ⟨[], [2, 3], []⟩]
theorem b_journal_Save : Body Tryz.prog 18 [] h_journal_Save c_journal_Save 48 [.cell 2 32, .tmp 3] := body_of Tryz.func18 (by kernel_rfl) (by kernel_rfl) (by kernel_rfl) (by kernel_rfl)
def r_journal_Check_0 : List I := [⟨some 17, .binOp .neq 38 (.tmp 16) (.const (.int .i64 0)) 38, some (13, false)⟩, ⟨some 18, .pick (.tmp 13) (.const (.bool true)) (.tmp 17), none⟩]
@[go_sem ↓] def uq58 := @unI _ _ r_journal_Check_0.eq_1
def r_journal_Check_1 : List I := ⟨some 12, .binOp .neq 38 (.tmp 11) (.const (.int .i64 0)) 38, none⟩ :: ⟨some 13, .move (.tmp 12), none⟩ :: ⟨some 14, .fieldAddr 32 (.tmp 1) 1, some (13, false)⟩ :: ⟨some 15, .load 29 (.tmp 14), some (13, false)⟩ :: ⟨some 16, .call { callee := .value (.func 58), args := #[(.tmp 15)], argTypes := #[29] }, some (13, false)⟩ :: r_journal_Check_0
@[go_sem ↓] def uq59 := @unI _ _ r_journal_Check_1.eq_1
def kc48 : C := (.seq (.seq (.reg ([⟨some 2, .assign (.const (.int .i64 8)), none⟩])) (.keep [2])) .ret)
@[go_sem ↓] def uq60 := @unC _ _ kc48.eq_1
def kc49 : C := (.cond (.tmp 18) kc48 .skip)
@[go_sem ↓] def uq61 := @unC _ _ kc49.eq_1
def r_journal_Check_4 : List I := [⟨some 19, .move (.tmp 22), none⟩, ⟨some 23, .extract (.tmp 19) 0, none⟩, ⟨some 24, .extract (.tmp 19) 1, none⟩, ⟨some 25, .extract (.tmp 19) 2, none⟩, ⟨some 3, .assign (.tmp 23), none⟩, ⟨some 4, .assign (.tmp 24), none⟩, ⟨some 5, .assign (.tmp 25), none⟩]
@[go_sem ↓] def uq62 := @unI _ _ r_journal_Check_4.eq_1
def r_journal_Check_5 : List I := [⟨some 26, .move (.tmp 29), none⟩, ⟨some 30, .extract (.tmp 26) 0, none⟩, ⟨some 31, .extract (.tmp 26) 1, none⟩, ⟨some 32, .extract (.tmp 26) 2, none⟩, ⟨some 7, .alloc 30, none⟩, ⟨some 6, .assign (.tmp 30), none⟩, ⟨none, .store 30 (.tmp 7) (.tmp 31), none⟩, ⟨some 8, .assign (.tmp 32), none⟩]
@[go_sem ↓] def uq63 := @unI _ _ r_journal_Check_5.eq_1
def kc50 : C := (.seq (.seq (.reg ([⟨some 2, .assign (.const (.int .i64 8)), none⟩])) (.keep [2])) .ret)
@[go_sem ↓] def uq64 := @unC _ _ kc50.eq_1
def kc51 : C := (.cond (.tmp 56) kc50 .skip)
@[go_sem ↓] def uq65 := @unC _ _ kc51.eq_1
def r_journal_Check_8 : List I := [⟨some 57, .move (.tmp 62), none⟩, ⟨some 63, .extract (.tmp 57) 0, none⟩, ⟨some 64, .extract (.tmp 57) 1, none⟩, ⟨none, .store 30 (.tmp 7) (.tmp 63), none⟩, ⟨some 8, .assign (.tmp 64), none⟩]
@[go_sem ↓] def uq66 := @unI _ _ r_journal_Check_8.eq_1
def kc52 : C := (.seq (.seq (.reg ([⟨some 2, .assign (.const (.int .i64 8)), none⟩])) (.keep [2])) .ret)
@[go_sem ↓] def uq67 := @unC _ _ kc52.eq_1
def kc53 : C := (.cond (.tmp 72) kc52 .skip)
@[go_sem ↓] def uq68 := @unC _ _ kc53.eq_1
def kc54 : C := (.seq (.seq (.reg ([⟨some 65, .move (.tmp 8), none⟩, ⟨some 66, .unOp .not 4 (.tmp 65), none⟩, ⟨some 67, .move (.tmp 66), none⟩, ⟨some 68, .load 30 (.tmp 7), some (67, false)⟩, ⟨some 69, .fieldAddr 32 (.tmp 1) 2, some (67, false)⟩, ⟨some 70, .load 30 (.tmp 69), some (67, false)⟩, ⟨some 71, .binOp .neq 30 (.tmp 68) (.tmp 70) 30, some (67, false)⟩, ⟨some 72, .pick (.tmp 67) (.const (.bool true)) (.tmp 71), none⟩])) (.keep [72])) kc53)
@[go_sem ↓] def uq69 := @unC _ _ kc54.eq_1
def kc55 : C := (.seq (.seq (.reg ([⟨some 2, .assign (.const (.int .i64 0)), none⟩])) (.keep [2])) .ret)
@[go_sem ↓] def uq70 := @unC _ _ kc55.eq_1
def kc56 : C := (.seq (.seq (.seq (.reg (⟨some 58, .load 30 (.tmp 7), none⟩ :: ⟨some 59, .fieldAddr 32 (.tmp 1) 1, none⟩ :: ⟨some 60, .load 29 (.tmp 59), none⟩ :: ⟨some 61, .move (.tmp 6), none⟩ :: ⟨some 62, .call { callee := .value (.func 61), args := #[(.tmp 58), (.tmp 60), (.tmp 61)], argTypes := #[30, 29, 3] }, none⟩ :: r_journal_Check_8)) (.keep [1, 7, 8])) kc54) kc55)
@[go_sem ↓] def uq71 := @unC _ _ kc56.eq_1
def kc57 : C := (.seq (.seq (.seq (.reg ([⟨some 33, .move (.tmp 8), none⟩, ⟨some 34, .unOp .not 4 (.tmp 33), none⟩, ⟨some 35, .move (.tmp 34), none⟩, ⟨some 36, .move (.tmp 5), some (35, false)⟩, ⟨some 37, .binOp .eql 38 (.tmp 36) (.const (.int .i64 0)) 38, some (35, false)⟩, ⟨some 38, .move (.tmp 37), some (35, false)⟩, ⟨some 39, .fieldAddr 32 (.tmp 1) 0, some (38, true)⟩, ⟨some 40, .fieldAddr 27 (.tmp 39) 1, some (38, true)⟩, ⟨some 41, .load 3 (.tmp 40), some (38, true)⟩, ⟨some 42, .move (.tmp 3), some (38, true)⟩, ⟨some 43, .binOp .add 3 (.tmp 42) (.const (.int .i64 1)) 3, some (38, true)⟩, ⟨some 44, .binOp .neq 3 (.tmp 41) (.tmp 43) 3, some (38, true)⟩, ⟨some 45, .pick (.tmp 38) (.tmp 44) (.const (.bool false)), some (35, false)⟩, ⟨some 46, .pick (.tmp 35) (.const (.bool true)) (.tmp 45), none⟩, ⟨some 47, .move (.tmp 46), none⟩, ⟨some 48, .move (.tmp 5), some (47, false)⟩, ⟨some 49, .binOp .neq 38 (.tmp 48) (.const (.int .i64 0)) 38, some (47, false)⟩, ⟨some 50, .move (.tmp 49), some (47, false)⟩, ⟨some 51, .fieldAddr 32 (.tmp 1) 0, some (50, true)⟩, ⟨some 52, .fieldAddr 27 (.tmp 51) 1, some (50, true)⟩, ⟨some 53, .load 3 (.tmp 52), some (50, true)⟩, ⟨some 54, .binOp .neq 3 (.tmp 53) (.const (.int .i64 1)) 3, some (50, true)⟩, ⟨some 55, .pick (.tmp 50) (.tmp 54) (.const (.bool false)), some (47, false)⟩, ⟨some 56, .pick (.tmp 47) (.const (.bool true)) (.tmp 55), none⟩])) (.keep [1, 6, 7, 56])) kc51) kc56)
@[go_sem ↓] def uq72 := @unC _ _ kc57.eq_1
def kc58 : C := (.seq (.seq (.reg (⟨some 27, .fieldAddr 32 (.tmp 1) 0, none⟩ :: ⟨some 28, .load 27 (.tmp 27), none⟩ :: ⟨some 29, .call { callee := .value (.func 60), args := #[(.tmp 28)], argTypes := #[27] }, none⟩ :: r_journal_Check_5)) (.keep [1, 3, 5, 6, 7, 8])) kc57)
@[go_sem ↓] def uq73 := @unC _ _ kc58.eq_1
def kc59 : C := (.seq (.seq (.reg (⟨some 20, .fieldAddr 32 (.tmp 1) 0, none⟩ :: ⟨some 21, .load 27 (.tmp 20), none⟩ :: ⟨some 22, .call { callee := .value (.func 59), args := #[(.tmp 21)], argTypes := #[27] }, none⟩ :: r_journal_Check_4)) (.keep [1, 3, 5])) kc58)
@[go_sem ↓] def uq74 := @unC _ _ kc59.eq_1
def kc60 : C := (.seq (.seq (.seq (.reg (⟨some 9, .fieldAddr 32 (.tmp 1) 0, none⟩ :: ⟨some 10, .load 27 (.tmp 9), none⟩ :: ⟨some 11, .call { callee := .value (.func 57), args := #[(.tmp 10)], argTypes := #[27] }, none⟩ :: r_journal_Check_1)) (.keep [1, 18])) kc49) kc59)
@[go_sem ↓] def uq75 := @unC _ _ kc60.eq_1
def c_journal_Check : C := (.seq (.seq (.reg ([⟨some 1, .box 32 (.tmp 0), none⟩, ⟨some 2, .assign (.const (.int .i64 0)), none⟩])) (.keep [1])) kc60)
attribute [go_sem ↓] c_journal_Check
def h_journal_Check : List Hint := [⟨[], [1], []⟩, ⟨[], [1, 18], []⟩, ⟨[], [2], []⟩, ⟨[], [1, 3, 5], []⟩, ⟨[], [1, 3, 5, 6, 7, 8], []⟩, ⟨[], [1, 6, 7, 56], []⟩, ⟨[], [2], []⟩, ⟨[], [1, 7, 8], []⟩, ⟨[], [72], []⟩, ⟨[], [2], []⟩, ⟨[], [2], []⟩]
theorem b_journal_Check : Body Tryz.prog 20 [] h_journal_Check c_journal_Check 73 [.tmp 2] := body_of Tryz.func20 (by kernel_rfl) (by kernel_rfl) (by kernel_rfl) (by kernel_rfl)
def r_ref06_Check_0 : List I := [⟨some 17, .binOp .neq 3 (.tmp 16) (.const (.int .i64 0)) 3, some (13, false)⟩, ⟨some 18, .pick (.tmp 13) (.const (.bool true)) (.tmp 17), none⟩]
@[go_sem ↓] def uq76 := @unI _ _ r_ref06_Check_0.eq_1
def r_ref06_Check_1 : List I := ⟨some 12, .binOp .neq 3 (.tmp 11) (.const (.int .i64 0)) 3, none⟩ :: ⟨some 13, .move (.tmp 12), none⟩ :: ⟨some 14, .fieldAddr 32 (.tmp 1) 1, some (13, false)⟩ :: ⟨some 15, .load 29 (.tmp 14), some (13, false)⟩ :: ⟨some 16, .call { callee := .value (.func 62), args := #[(.tmp 15)], argTypes := #[29] }, some (13, false)⟩ :: r_ref06_Check_0
@[go_sem ↓] def uq77 := @unI _ _ r_ref06_Check_1.eq_1
def kc61 : C := (.seq (.seq (.reg ([⟨some 2, .assign (.const (.int .i64 8)), none⟩])) (.keep [2])) .ret)
@[go_sem ↓] def uq78 := @unC _ _ kc61.eq_1
def kc62 : C := (.cond (.tmp 18) kc61 .skip)
@[go_sem ↓] def uq79 := @unC _ _ kc62.eq_1
def r_ref06_Check_4 : List I := [⟨some 19, .move (.tmp 22), none⟩, ⟨some 23, .extract (.tmp 19) 0, none⟩, ⟨some 24, .extract (.tmp 19) 1, none⟩, ⟨some 4, .alloc 111, none⟩, ⟨none, .store 111 (.tmp 4) (.tmp 23), none⟩, ⟨some 5, .assign (.tmp 24), none⟩]
@[go_sem ↓] def uq80 := @unI _ _ r_ref06_Check_4.eq_1
def kc63 : C := (.seq (.reg ([⟨some 26, .fieldAddr 111 (.tmp 4) 0, none⟩, ⟨some 27, .load 3 (.tmp 26), none⟩, ⟨some 28, .binOp .add 3 (.tmp 27) (.const (.int .i64 1)) 3, none⟩, ⟨some 3, .assign (.tmp 28), none⟩])) (.keep [1, 3]))
@[go_sem ↓] def uq81 := @unC _ _ kc63.eq_1
def kc64 : C := (.cond (.tmp 25) kc63 .skip)
@[go_sem ↓] def uq82 := @unC _ _ kc64.eq_1
def kc65 : C := (.seq (.seq (.reg ([⟨some 25, .move (.tmp 5), none⟩])) (.keep [1, 3, 4, 25])) kc64)
@[go_sem ↓] def uq83 := @unC _ _ kc65.eq_1
def r_ref06_Check_8 : List I := [⟨some 29, .move (.tmp 32), none⟩, ⟨some 33, .extract (.tmp 29) 0, none⟩, ⟨some 34, .extract (.tmp 29) 1, none⟩, ⟨some 35, .extract (.tmp 29) 2, none⟩, ⟨some 7, .alloc 30, none⟩, ⟨some 6, .assign (.tmp 33), none⟩, ⟨none, .store 30 (.tmp 7) (.tmp 34), none⟩, ⟨some 8, .assign (.tmp 35), none⟩]
@[go_sem ↓] def uq84 := @unI _ _ r_ref06_Check_8.eq_1
def kc66 : C := (.seq (.seq (.reg ([⟨some 2, .assign (.const (.int .i64 8)), none⟩])) (.keep [2])) .ret)
@[go_sem ↓] def uq85 := @unC _ _ kc66.eq_1
def kc67 : C := (.cond (.tmp 58) kc66 .skip)
@[go_sem ↓] def uq86 := @unC _ _ kc67.eq_1
def r_ref06_Check_11 : List I := [⟨some 59, .move (.tmp 64), none⟩, ⟨some 65, .extract (.tmp 59) 0, none⟩, ⟨some 66, .extract (.tmp 59) 1, none⟩, ⟨none, .store 30 (.tmp 7) (.tmp 65), none⟩, ⟨some 8, .assign (.tmp 66), none⟩]
@[go_sem ↓] def uq87 := @unI _ _ r_ref06_Check_11.eq_1
def kc68 : C := (.seq (.seq (.reg ([⟨some 2, .assign (.const (.int .i64 8)), none⟩])) (.keep [2])) .ret)
@[go_sem ↓] def uq88 := @unC _ _ kc68.eq_1
def kc69 : C := (.cond (.tmp 74) kc68 .skip)
@[go_sem ↓] def uq89 := @unC _ _ kc69.eq_1
def kc70 : C := (.seq (.seq (.reg ([⟨some 2, .assign (.const (.int .i64 0)), none⟩])) (.keep [2])) .ret)
@[go_sem ↓] def uq90 := @unC _ _ kc70.eq_1
def kc71 : C := (.seq (.seq (.seq (.reg ([⟨some 67, .move (.tmp 8), none⟩, ⟨some 68, .unOp .not 4 (.tmp 67), none⟩, ⟨some 69, .move (.tmp 68), none⟩, ⟨some 70, .load 30 (.tmp 7), some (69, false)⟩, ⟨some 71, .fieldAddr 32 (.tmp 1) 2, some (69, false)⟩, ⟨some 72, .load 30 (.tmp 71), some (69, false)⟩, ⟨some 73, .binOp .neq 30 (.tmp 70) (.tmp 72) 30, some (69, false)⟩, ⟨some 74, .pick (.tmp 69) (.const (.bool true)) (.tmp 73), none⟩])) (.keep [74])) kc69) kc70)
@[go_sem ↓] def uq91 := @unC _ _ kc71.eq_1
def kc72 : C := (.seq (.seq (.reg (⟨some 60, .load 30 (.tmp 7), none⟩ :: ⟨some 61, .fieldAddr 32 (.tmp 1) 1, none⟩ :: ⟨some 62, .load 29 (.tmp 61), none⟩ :: ⟨some 63, .move (.tmp 6), none⟩ :: ⟨some 64, .call { callee := .value (.func 65), args := #[(.tmp 60), (.tmp 62), (.tmp 63)], argTypes := #[30, 29, 3] }, none⟩ :: r_ref06_Check_11)) (.keep [1, 7, 8])) kc71)
@[go_sem ↓] def uq92 := @unC _ _ kc72.eq_1
def kc73 : C := (.seq (.seq (.seq (.reg ([⟨some 36, .move (.tmp 8), none⟩, ⟨some 37, .unOp .not 4 (.tmp 36), none⟩, ⟨some 38, .move (.tmp 37), none⟩, ⟨some 39, .fieldAddr 32 (.tmp 1) 0, some (38, false)⟩, ⟨some 40, .fieldAddr 27 (.tmp 39) 1, some (38, false)⟩, ⟨some 41, .load 3 (.tmp 40), some (38, false)⟩, ⟨some 42, .move (.tmp 3), some (38, false)⟩, ⟨some 43, .binOp .neq 3 (.tmp 41) (.tmp 42) 3, some (38, false)⟩, ⟨some 44, .pick (.tmp 38) (.const (.bool true)) (.tmp 43), none⟩, ⟨some 45, .move (.tmp 44), none⟩, ⟨some 46, .fieldAddr 32 (.tmp 1) 1, some (45, false)⟩, ⟨some 47, .fieldAddr 29 (.tmp 46) 1, some (45, false)⟩, ⟨some 48, .load 3 (.tmp 47), some (45, false)⟩, ⟨some 49, .move (.tmp 6), some (45, false)⟩, ⟨some 50, .binOp .gtr 3 (.tmp 48) (.tmp 49) 3, some (45, false)⟩, ⟨some 51, .pick (.tmp 45) (.const (.bool true)) (.tmp 50), none⟩, ⟨some 52, .move (.tmp 51), none⟩, ⟨some 53, .move (.tmp 6), some (52, false)⟩, ⟨some 54, .fieldAddr 32 (.tmp 1) 1, some (52, false)⟩, ⟨some 55, .fieldAddr 29 (.tmp 54) 2, some (52, false)⟩, ⟨some 56, .load 3 (.tmp 55), some (52, false)⟩, ⟨some 57, .binOp .gtr 3 (.tmp 53) (.tmp 56) 3, some (52, false)⟩, ⟨some 58, .pick (.tmp 52) (.const (.bool true)) (.tmp 57), none⟩])) (.keep [1, 6, 7, 58])) kc67) kc72)
@[go_sem ↓] def uq93 := @unC _ _ kc73.eq_1
def kc74 : C := (.seq (.seq (.reg (⟨some 30, .fieldAddr 32 (.tmp 1) 0, none⟩ :: ⟨some 31, .load 27 (.tmp 30), none⟩ :: ⟨some 32, .call { callee := .value (.func 64), args := #[(.tmp 31)], argTypes := #[27] }, none⟩ :: r_ref06_Check_8)) (.keep [1, 3, 6, 7, 8])) kc73)
@[go_sem ↓] def uq94 := @unC _ _ kc74.eq_1
def kc75 : C := (.seq (.seq (.seq (.reg (⟨some 20, .fieldAddr 32 (.tmp 1) 0, none⟩ :: ⟨some 21, .load 27 (.tmp 20), none⟩ :: ⟨some 22, .call { callee := .value (.func 63), args := #[(.tmp 21)], argTypes := #[27] }, none⟩ :: r_ref06_Check_4)) (.keep [1, 3, 4, 5])) kc65) kc74)
@[go_sem ↓] def uq95 := @unC _ _ kc75.eq_1
def kc76 : C := (.seq (.seq (.reg ([⟨some 3, .assign (.const (.int .i64 1)), none⟩])) (.keep [1, 3])) kc75)
@[go_sem ↓] def uq96 := @unC _ _ kc76.eq_1
def kc77 : C := (.seq (.seq (.seq (.reg (⟨some 9, .fieldAddr 32 (.tmp 1) 0, none⟩ :: ⟨some 10, .load 27 (.tmp 9), none⟩ :: ⟨some 11, .call { callee := .value (.func 31), args := #[(.tmp 10)], argTypes := #[27] }, none⟩ :: r_ref06_Check_1)) (.keep [1, 18])) kc62) kc76)
@[go_sem ↓] def uq97 := @unC _ _ kc77.eq_1
def c_ref06_Check : C := (.seq (.seq (.reg ([⟨some 1, .box 32 (.tmp 0), none⟩, ⟨some 2, .assign (.const (.int .i64 0)), none⟩])) (.keep [1])) kc77)
attribute [go_sem ↓] c_ref06_Check
def h_ref06_Check : List Hint := [⟨[], [1], []⟩, ⟨[], [1, 18], []⟩, ⟨[], [2], []⟩, ⟨[], [1, 3], []⟩, ⟨[], [1, 3, 4, 5], []⟩, ⟨[], [1, 3, 4, 25], []⟩, ⟨[], [1, 3], []⟩, ⟨[], [1, 3, 6, 7, 8], []⟩, ⟨[], [1, 6, 7, 58], []⟩, ⟨[], [2], []⟩, ⟨[], [1, 7, 8], []⟩, ⟨[], [74], []⟩, ⟨[], [2], []⟩, ⟨[], [2], []⟩]
theorem b_ref06_Check : Body Tryz.prog 21 [] h_ref06_Check c_ref06_Check 75 [.tmp 2] := body_of Tryz.func21 (by kernel_rfl) (by kernel_rfl) (by kernel_rfl) (by kernel_rfl)
def c_ref06_Valid : C := (.seq (.seq (.reg ([⟨some 1, .box 34 (.tmp 0), none⟩, ⟨some 2, .assign (.const (.bool false)), none⟩])) (.keep [1])) (.seq (.seq (.reg ([⟨some 3, .fieldAddr 34 (.tmp 1) 0, none⟩, ⟨some 4, .load 3 (.tmp 3), none⟩, ⟨some 5, .binOp .geq 3 (.tmp 4) (.const (.int .i64 0)) 3, none⟩, ⟨some 6, .move (.tmp 5), none⟩, ⟨some 7, .fieldAddr 34 (.tmp 1) 0, some (6, true)⟩, ⟨some 8, .load 3 (.tmp 7), some (6, true)⟩, ⟨some 9, .binOp .lss 3 (.tmp 8) (.const (.int .i64 8)) 3, some (6, true)⟩, ⟨some 10, .pick (.tmp 6) (.tmp 9) (.const (.bool false)), none⟩, ⟨some 11, .move (.tmp 10), none⟩, ⟨some 12, .fieldAddr 34 (.tmp 1) 1, some (11, true)⟩, ⟨some 13, .load 3 (.tmp 12), some (11, true)⟩, ⟨some 14, .binOp .geq 3 (.tmp 13) (.const (.int .i64 (-1000000))) 3, some (11, true)⟩, ⟨some 15, .pick (.tmp 11) (.tmp 14) (.const (.bool false)), none⟩, ⟨some 16, .move (.tmp 15), none⟩, ⟨some 17, .fieldAddr 34 (.tmp 1) 1, some (16, true)⟩, ⟨some 18, .load 3 (.tmp 17), some (16, true)⟩, ⟨some 19, .binOp .leq 3 (.tmp 18) (.const (.int .i64 1000000)) 3, some (16, true)⟩, ⟨some 20, .pick (.tmp 16) (.tmp 19) (.const (.bool false)), none⟩, ⟨some 2, .assign (.tmp 20), none⟩])) (.keep [2])) .ret))
attribute [go_sem ↓] c_ref06_Valid
def h_ref06_Valid : List Hint := [⟨[], [1], []⟩, ⟨[], [2], []⟩]
theorem b_ref06_Valid : Body Tryz.prog 24 [] h_ref06_Valid c_ref06_Valid 21 [.tmp 2] := body_of Tryz.func24 (by kernel_rfl) (by kernel_rfl) (by kernel_rfl) (by kernel_rfl)
def c_ref06_Room : C := (.seq (.seq (.reg ([⟨some 2, .box 32 (.tmp 0), none⟩, ⟨some 4, .assign (.const (.bool false)), none⟩])) (.keep [1, 2])) (.seq (.seq (.seq (.draw ([⟨⟨some 6, .fieldAddr 32 (.tmp 2) 0, none⟩, []⟩, ⟨⟨some 7, .fieldAddr 27 (.tmp 6) 0, none⟩, []⟩, ⟨⟨some 8, .indexAddr 25 (.tmp 7) (.const (.int .i64 0)), none⟩, []⟩, ⟨⟨some 9, .fieldAddr 24 (.tmp 8) 2, none⟩, []⟩, ⟨⟨some 10, .load 3 (.tmp 9), none⟩, []⟩, ⟨⟨some 11, .binOp .lss 3 (.tmp 10) (.const (.int .i64 100)) 3, none⟩, []⟩, ⟨⟨some 12, .move (.tmp 11), none⟩, []⟩, ⟨⟨some 13, .fieldAddr 32 (.tmp 2) 0, some (12, false)⟩, []⟩, ⟨⟨some 14, .fieldAddr 27 (.tmp 13) 0, some (12, false)⟩, []⟩, ⟨⟨some 15, .indexAddr 25 (.tmp 14) (.const (.int .i64 1)), some (12, false)⟩, []⟩, ⟨⟨some 16, .fieldAddr 24 (.tmp 15) 2, some (12, false)⟩, []⟩, ⟨⟨some 17, .load 3 (.tmp 16), some (12, false)⟩, []⟩, ⟨⟨some 18, .binOp .lss 3 (.tmp 17) (.const (.int .i64 100)) 3, some (12, false)⟩, []⟩, ⟨⟨some 19, .pick (.tmp 12) (.const (.bool true)) (.tmp 18), none⟩, []⟩, ⟨⟨some 20, .move (.tmp 19), none⟩, []⟩, ⟨⟨some 21, .fieldAddr 32 (.tmp 2) 1, some (20, false)⟩, []⟩, ⟨⟨some 22, .fieldAddr 29 (.tmp 21) 0, some (20, false)⟩, []⟩, ⟨⟨some 23, .fieldAddr 24 (.tmp 22) 2, some (20, false)⟩, []⟩, ⟨⟨some 24, .load 3 (.tmp 23), some (20, false)⟩, []⟩, ⟨⟨some 25, .fieldAddr 32 (.tmp 2) 1, some (20, false)⟩, [15, 16, 17, 18]⟩, ⟨⟨some 26, .fieldAddr 29 (.tmp 25) 0, some (20, false)⟩, [15, 16, 17, 18]⟩, ⟨⟨some 27, .load 24 (.tmp 26), some (20, false)⟩, [15, 16, 17, 18]⟩, ⟨⟨some 28, .call { callee := .value (.func 73), args := #[(.tmp 27)], argTypes := #[24] }, some (20, false)⟩, [15, 16, 17, 18]⟩, ⟨⟨some 29, .call { callee := .builtin .len, args := #[(.tmp 28)], argTypes := #[22] }, some (20, false)⟩, [15, 16, 17, 18]⟩, ⟨⟨some 30, .binOp .sub 3 (.tmp 24) (.tmp 29) 3, some (20, false)⟩, []⟩, ⟨⟨some 31, .move (.tmp 1), some (20, false)⟩, [15, 16, 17, 18, 19, 20, 21, 22, 23, 24]⟩, ⟨⟨some 32, .binOp .mul 3 (.const (.int .i64 21)) (.tmp 31) 3, some (20, false)⟩, [15, 16, 17, 18, 19, 20, 21, 22, 23, 24]⟩, ⟨⟨some 33, .binOp .lss 3 (.tmp 30) (.tmp 32) 3, some (20, false)⟩, []⟩, ⟨⟨some 34, .pick (.tmp 20) (.const (.bool true)) (.tmp 33), none⟩, []⟩])) (.keep [1, 2, 34])) (.cond (.tmp 34) (.seq (.seq (.reg ([⟨some 4, .assign (.const (.bool false)), none⟩])) (.keep [4])) .ret) .skip)) (.seq (.seq (.seq (.reg ([⟨some 5, .assign (.const (.int .i64 0)), none⟩])) (.keep [1, 2, 5])) (.block 0 (.loop [] [1, 2, 5] (.seq (.seq (.seq (.reg ([⟨some 35, .move (.tmp 5), none⟩, ⟨some 36, .binOp .lss 3 (.tmp 35) (.const (.int .i64 8)) 3, none⟩])) (.keep [1, 2, 5, 36])) (.cond (.tmp 36) .skip (.exit 0))) (.seq (.block 1 (.seq (.seq (.reg ([⟨some 39, .move (.tmp 5), none⟩, ⟨some 40, .fieldAddr 32 (.tmp 2) 2, none⟩, ⟨some 41, .indexAddr 30 (.tmp 40) (.tmp 39), none⟩, ⟨some 42, .load 3 (.tmp 41), none⟩, ⟨some 43, .move (.tmp 1), none⟩, ⟨some 44, .binOp .mul 3 (.const (.int .i64 1000000)) (.tmp 43) 3, none⟩, ⟨some 45, .binOp .sub 3 (.const (.int .i64 1000000000)) (.tmp 44) 3, none⟩, ⟨some 46, .binOp .gtr 3 (.tmp 42) (.tmp 45) 3, none⟩, ⟨some 47, .move (.tmp 46), none⟩, ⟨some 48, .move (.tmp 5), some (47, false)⟩, ⟨some 49, .fieldAddr 32 (.tmp 2) 2, some (47, false)⟩, ⟨some 50, .indexAddr 30 (.tmp 49) (.tmp 48), some (47, false)⟩, ⟨some 51, .load 3 (.tmp 50), some (47, false)⟩, ⟨some 52, .move (.tmp 1), some (47, false)⟩, ⟨some 53, .binOp .mul 3 (.const (.int .i64 1000000)) (.tmp 52) 3, some (47, false)⟩, ⟨some 54, .binOp .sub 3 (.tmp 53) (.const (.int .i64 1000000000)) 3, some (47, false)⟩, ⟨some 55, .binOp .lss 3 (.tmp 51) (.tmp 54) 3, some (47, false)⟩, ⟨some 56, .pick (.tmp 47) (.const (.bool true)) (.tmp 55), none⟩])) (.keep [1, 2, 5, 56])) (.cond (.tmp 56) (.seq (.seq (.reg ([⟨some 4, .assign (.const (.bool false)), none⟩])) (.keep [4])) .ret) .skip))) (.seq (.reg ([⟨some 37, .move (.tmp 5), none⟩, ⟨some 38, .binOp .add 3 (.tmp 37) (.const (.int .i64 1)) 3, none⟩, ⟨some 5, .assign (.tmp 38), none⟩])) (.keep [1, 2, 5]))))))) (.seq (.seq (.reg ([⟨some 57, .fieldAddr 32 (.tmp 2) 1, none⟩, ⟨some 58, .fieldAddr 29 (.tmp 57) 2, none⟩, ⟨some 59, .load 3 (.tmp 58), none⟩, ⟨some 60, .binOp .lss 3 (.tmp 59) (.const (.int .i64 1000000)) 3, none⟩, ⟨some 61, .move (.tmp 60), none⟩, ⟨some 62, .fieldAddr 32 (.tmp 2) 0, some (61, true)⟩, ⟨some 63, .fieldAddr 27 (.tmp 62) 1, some (61, true)⟩, ⟨some 64, .load 3 (.tmp 63), some (61, true)⟩, ⟨some 65, .binOp .lss 3 (.tmp 64) (.const (.int .i64 1000000)) 3, some (61, true)⟩, ⟨some 66, .pick (.tmp 61) (.tmp 65) (.const (.bool false)), none⟩, ⟨some 4, .assign (.tmp 66), none⟩])) (.keep [4])) .ret))))
attribute [go_sem ↓] c_ref06_Room
def h_ref06_Room : List Hint := [⟨[], [1, 2], []⟩, ⟨[], [1, 2, 34], []⟩, ⟨[], [4], []⟩, ⟨[], [1, 2, 5], []⟩, ⟨[], [1, 2, 5], []⟩, ⟨[], [1, 2, 5, 36], []⟩, ⟨[], [1, 2, 5, 56], []⟩, ⟨[], [4], []⟩, ⟨[], [1, 2, 5], []⟩, ⟨[], [4], []⟩]
theorem b_ref06_Room : Body Tryz.prog 28 [] h_ref06_Room c_ref06_Room 67 [.tmp 4] := body_of Tryz.func28 (by kernel_rfl) (by kernel_rfl) (by kernel_rfl) (by kernel_rfl)
def c_journal_fine : C := (.seq (.seq (.reg ([⟨some 1, .box 30 (.tmp 0), none⟩, ⟨some 2, .assign (.const (.bool false)), none⟩])) (.keep [1])) (.seq (.seq (.reg ([⟨some 3, .slice 30 (.tmp 1) none none none, none⟩, ⟨some 4, .call { callee := .value (.func 84), args := #[(.tmp 3)], argTypes := #[131] }, none⟩, ⟨some 5, .binOp .geq 3 (.tmp 4) (.const (.int .i64 (-1000000000))) 3, none⟩, ⟨some 6, .move (.tmp 5), none⟩, ⟨some 7, .slice 30 (.tmp 1) none none none, some (6, true)⟩, ⟨some 8, .call { callee := .value (.func 85), args := #[(.tmp 7)], argTypes := #[131] }, some (6, true)⟩, ⟨some 9, .binOp .leq 3 (.tmp 8) (.const (.int .i64 1000000000)) 3, some (6, true)⟩, ⟨some 10, .pick (.tmp 6) (.tmp 9) (.const (.bool false)), none⟩, ⟨some 2, .assign (.tmp 10), none⟩])) (.keep [2])) .ret))
attribute [go_sem ↓] c_journal_fine
def h_journal_fine : List Hint := [⟨[], [1], []⟩, ⟨[], [2], []⟩]
theorem b_journal_fine : Body Tryz.prog 40 [] h_journal_fine c_journal_fine 11 [.tmp 2] := body_of Tryz.func40 (by kernel_rfl) (by kernel_rfl) (by kernel_rfl) (by kernel_rfl)
def c_journal_valid : C := (.seq (.seq (.reg ([⟨some 1, .box 34 (.tmp 0), none⟩, ⟨some 2, .assign (.const (.bool false)), none⟩])) (.keep [1])) (.seq (.seq (.reg ([⟨some 3, .fieldAddr 34 (.tmp 1) 0, none⟩, ⟨some 4, .load 3 (.tmp 3), none⟩, ⟨some 5, .binOp .geq 3 (.tmp 4) (.const (.int .i64 0)) 3, none⟩, ⟨some 6, .move (.tmp 5), none⟩, ⟨some 7, .fieldAddr 34 (.tmp 1) 0, some (6, true)⟩, ⟨some 8, .load 3 (.tmp 7), some (6, true)⟩, ⟨some 9, .binOp .lss 3 (.tmp 8) (.const (.int .i64 8)) 3, some (6, true)⟩, ⟨some 10, .pick (.tmp 6) (.tmp 9) (.const (.bool false)), none⟩, ⟨some 11, .move (.tmp 10), none⟩, ⟨some 12, .fieldAddr 34 (.tmp 1) 1, some (11, true)⟩, ⟨some 13, .load 3 (.tmp 12), some (11, true)⟩, ⟨some 14, .binOp .geq 3 (.tmp 13) (.const (.int .i64 (-1000000))) 3, some (11, true)⟩, ⟨some 15, .pick (.tmp 11) (.tmp 14) (.const (.bool false)), none⟩, ⟨some 16, .move (.tmp 15), none⟩, ⟨some 17, .fieldAddr 34 (.tmp 1) 1, some (16, true)⟩, ⟨some 18, .load 3 (.tmp 17), some (16, true)⟩, ⟨some 19, .binOp .leq 3 (.tmp 18) (.const (.int .i64 1000000)) 3, some (16, true)⟩, ⟨some 20, .pick (.tmp 16) (.tmp 19) (.const (.bool false)), none⟩, ⟨some 2, .assign (.tmp 20), none⟩])) (.keep [2])) .ret))
attribute [go_sem ↓] c_journal_valid
def h_journal_valid : List Hint := [⟨[], [1], []⟩, ⟨[], [2], []⟩]
theorem b_journal_valid : Body Tryz.prog 41 [] h_journal_valid c_journal_valid 21 [.tmp 2] := body_of Tryz.func41 (by kernel_rfl) (by kernel_rfl) (by kernel_rfl) (by kernel_rfl)
def c_ref06_State : C := (.seq (.seq (.reg ([⟨some 1, .box 30 (.tmp 0), none⟩, ⟨some 2, .assign (.const (.bool false)), none⟩])) (.keep [1])) (.seq (.seq (.seq (.reg ([⟨some 3, .assign (.const (.int .i64 0)), none⟩])) (.keep [1, 3])) (.block 0 (.loop [] [1, 3] (.seq (.seq (.seq (.reg ([⟨some 4, .move (.tmp 3), none⟩, ⟨some 5, .binOp .lss 3 (.tmp 4) (.const (.int .i64 8)) 3, none⟩])) (.keep [1, 3, 5])) (.cond (.tmp 5) .skip (.exit 0))) (.seq (.block 1 (.seq (.seq (.reg ([⟨some 8, .move (.tmp 3), none⟩, ⟨some 9, .indexAddr 30 (.tmp 1) (.tmp 8), none⟩, ⟨some 10, .load 3 (.tmp 9), none⟩, ⟨some 11, .binOp .lss 3 (.tmp 10) (.const (.int .i64 (-1000000000))) 3, none⟩, ⟨some 12, .move (.tmp 11), none⟩, ⟨some 13, .move (.tmp 3), some (12, false)⟩, ⟨some 14, .indexAddr 30 (.tmp 1) (.tmp 13), some (12, false)⟩, ⟨some 15, .load 3 (.tmp 14), some (12, false)⟩, ⟨some 16, .binOp .gtr 3 (.tmp 15) (.const (.int .i64 1000000000)) 3, some (12, false)⟩, ⟨some 17, .pick (.tmp 12) (.const (.bool true)) (.tmp 16), none⟩])) (.keep [1, 3, 17])) (.cond (.tmp 17) (.seq (.seq (.reg ([⟨some 2, .assign (.const (.bool false)), none⟩])) (.keep [2])) .ret) .skip))) (.seq (.reg ([⟨some 6, .move (.tmp 3), none⟩, ⟨some 7, .binOp .add 3 (.tmp 6) (.const (.int .i64 1)) 3, none⟩, ⟨some 3, .assign (.tmp 7), none⟩])) (.keep [1, 3]))))))) (.seq (.seq (.reg ([⟨some 2, .assign (.const (.bool true)), none⟩])) (.keep [2])) .ret)))
attribute [go_sem ↓] c_ref06_State
def h_ref06_State : List Hint := [⟨[], [1], []⟩, ⟨[], [1, 3], []⟩, ⟨[], [1, 3], []⟩, ⟨[], [1, 3, 5], []⟩, ⟨[], [1, 3, 17], []⟩, ⟨[], [2], []⟩, ⟨[], [1, 3], []⟩, ⟨[], [2], []⟩]
theorem b_ref06_State : Body Tryz.prog 42 [] h_ref06_State c_ref06_State 18 [.tmp 2] := body_of Tryz.func42 (by kernel_rfl) (by kernel_rfl) (by kernel_rfl) (by kernel_rfl)
def c_journal_put : C := (.seq (.seq (.reg ([⟨some 4, .assign (.const (.slice none 0 0)), none⟩])) (.keep [0, 1])) (.seq (.seq (.seq (.reg ([⟨some 8, .move (.tmp 1), none⟩, ⟨some 9, .call { callee := .builtin .len, args := #[(.tmp 8)], argTypes := #[131] }, none⟩, ⟨some 10, .move (.const (.int .i64 0)), none⟩])) (.keep [0, 8, 9, 10])) (.block 0 (.loop [(0, 1)] [0, 8, 9, 10] (.seq (.seq (.reg ([⟨some 11, .binOp .lss 3 (.tmp 10) (.tmp 9) 3, none⟩])) (.keep [0, 8, 9, 10, 11])) (.seq (.cond (.tmp 11) .skip (.exit 0)) (.seq (.block 1 (.seq (.seq (.reg ([⟨some 12, .indexAddr 131 (.tmp 8) (.tmp 10), none⟩, ⟨some 13, .load 3 (.tmp 12), none⟩, ⟨some 6, .assign (.tmp 13), none⟩])) (.keep [0, 6, 8, 9, 10])) (.seq (.seq (.reg ([⟨some 14, .move (.const (.int .i64 0)), none⟩])) (.keep [0, 6, 8, 9, 10, 14])) (.block 2 (.loop [(0, 1)] [0, 6, 8, 9, 10, 14] (.seq (.seq (.reg ([⟨some 15, .binOp .lss 3 (.tmp 14) (.const (.int .i64 8)) 3, none⟩])) (.keep [0, 6, 8, 9, 10, 14, 15])) (.seq (.cond (.tmp 15) .skip (.exit 2)) (.seq (.block 3 (.seq (.seq (.reg ([⟨some 16, .move (.tmp 14), none⟩, ⟨some 7, .assign (.tmp 16), none⟩])) (.keep [0, 6, 7, 8, 9, 10, 14])) (.seq (.reg ([⟨some 17, .move (.tmp 0), none⟩, ⟨some 18, .move (.tmp 6), none⟩, ⟨some 19, .convert 3 140 (.tmp 18), none⟩, ⟨some 20, .move (.tmp 7), none⟩, ⟨some 21, .binOp .mul 3 (.const (.int .i64 8)) (.tmp 20) 3, none⟩, ⟨some 22, .binOp .shr 140 (.tmp 19) (.tmp 21) 3, none⟩, ⟨some 23, .convert 140 5 (.tmp 22), none⟩, ⟨some 24, .buildSlice 22 1 #[(0, (.tmp 23))], none⟩, ⟨some 25, .call { callee := .builtin .append, args := #[(.tmp 17), (.tmp 24)], argTypes := #[22, 22] }, none⟩, ⟨some 0, .assign (.tmp 25), none⟩])) (.keep [0, 6, 8, 9, 10, 14])))) (.seq (.reg ([⟨some 26, .binOp .add 3 (.tmp 14) (.const (.int .i64 1)) 3, none⟩, ⟨some 14, .move (.tmp 26), none⟩])) (.keep [0, 6, 8, 9, 10, 14])))))))))) (.seq (.reg ([⟨some 27, .binOp .add 3 (.tmp 10) (.const (.int .i64 1)) 3, none⟩, ⟨some 10, .move (.tmp 27), none⟩])) (.keep [0, 8, 9, 10])))))))) (.seq (.seq (.reg ([⟨some 28, .move (.tmp 0), none⟩, ⟨some 4, .assign (.tmp 28), none⟩])) (.keep [4])) .ret)))
attribute [go_sem ↓] c_journal_put
def h_journal_put : List Hint := [⟨[], [0, 1], []⟩, ⟨[], [0, 8, 9, 10], []⟩, ⟨[(0, 1)], [0, 8, 9, 10], []⟩, ⟨[], [0, 8, 9, 10, 11], []⟩, ⟨[], [0, 6, 8, 9, 10], []⟩, ⟨[], [0, 6, 8, 9, 10, 14], []⟩, ⟨[(0, 1)], [0, 6, 8, 9, 10, 14], []⟩, ⟨[], [0, 6, 8, 9, 10, 14, 15], []⟩, ⟨[], [0, 6, 7, 8, 9, 10, 14], []⟩, ⟨[], [0, 6, 8, 9, 10, 14], []⟩, ⟨[], [0, 6, 8, 9, 10, 14], []⟩, ⟨[], [0, 8, 9, 10], []⟩, ⟨[], [4], []⟩]
theorem b_journal_put : Body Tryz.prog 44 [] h_journal_put c_journal_put 29 [.tmp 4] := body_of Tryz.func44 (by kernel_rfl) (by kernel_rfl) (by kernel_rfl) (by kernel_rfl)
def c_journal_twin : C := (.seq (.seq (.reg ([⟨some 1, .box 27 (.tmp 0), none⟩, ⟨some 2, .alloc 27, none⟩])) (.keep [1, 2])) (.seq (.seq (.seq (.reg ([⟨some 5, .fieldAddr 27 (.tmp 1) 0, none⟩, ⟨some 6, .load 25 (.tmp 5), none⟩, ⟨some 7, .move (.const (.int .i64 0)), none⟩])) (.keep [1, 2, 6, 7])) (.block 0 (.loop [] [1, 2, 6, 7] (.seq (.seq (.reg ([⟨some 8, .binOp .lss 3 (.tmp 7) (.const (.int .i64 2)) 3, none⟩])) (.keep [1, 2, 6, 7, 8])) (.seq (.cond (.tmp 8) .skip (.exit 0)) (.seq (.block 1 (.seq (.seq (.reg ([⟨some 9, .move (.tmp 7), none⟩, ⟨some 10, .index 25 (.tmp 6) (.tmp 7), none⟩, ⟨some 4, .alloc 24, none⟩, ⟨some 3, .assign (.tmp 9), none⟩, ⟨none, .store 24 (.tmp 4) (.tmp 10), none⟩])) (.keep [1, 2, 3, 4, 6, 7])) (.seq (.draw ([⟨⟨some 11, .move (.tmp 3), none⟩, []⟩, ⟨⟨some 12, .move (.tmp 3), none⟩, [0]⟩, ⟨⟨some 13, .fieldAddr 24 (.tmp 4) 0, none⟩, [0, 1]⟩, ⟨⟨some 14, .load 22 (.tmp 13), none⟩, [0, 1]⟩, ⟨⟨some 15, .call { callee := .value (.func 90), args := #[(.tmp 14)], argTypes := #[22] }, none⟩, [0, 1]⟩, ⟨⟨some 16, .fieldAddr 24 (.tmp 4) 1, none⟩, [0, 1, 2, 3, 4]⟩, ⟨⟨some 17, .load 22 (.tmp 16), none⟩, [0, 1, 2, 3, 4]⟩, ⟨⟨some 18, .call { callee := .value (.func 90), args := #[(.tmp 17)], argTypes := #[22] }, none⟩, [0, 1]⟩, ⟨⟨some 19, .fieldAddr 27 (.tmp 1) 0, none⟩, [0, 1, 2, 3, 4, 5, 6, 7]⟩, ⟨⟨some 20, .indexAddr 25 (.tmp 19) (.tmp 11), none⟩, [1, 5, 6, 7]⟩, ⟨⟨some 21, .fieldAddr 24 (.tmp 20) 0, none⟩, [1, 5, 6, 7]⟩, ⟨⟨none, .store 22 (.tmp 21) (.tmp 15), none⟩, [1]⟩, ⟨⟨some 22, .fieldAddr 27 (.tmp 1) 0, none⟩, [0, 1, 2, 3, 4, 5, 6, 7, 8, 9, 10, 11]⟩, ⟨⟨some 23, .indexAddr 25 (.tmp 22) (.tmp 12), none⟩, []⟩, ⟨⟨some 24, .fieldAddr 24 (.tmp 23) 1, none⟩, []⟩, ⟨⟨none, .store 22 (.tmp 24) (.tmp 18), none⟩, []⟩])) (.keep [1, 2, 6, 7])))) (.seq (.reg ([⟨some 25, .binOp .add 3 (.tmp 7) (.const (.int .i64 1)) 3, none⟩, ⟨some 7, .move (.tmp 25), none⟩])) (.keep [1, 2, 6, 7])))))))) (.seq (.seq (.reg ([⟨some 26, .load 27 (.tmp 1), none⟩, ⟨none, .store 27 (.tmp 2) (.tmp 26), none⟩])) (.keep [2])) .ret)))
attribute [go_sem ↓] c_journal_twin
def h_journal_twin : List Hint := [⟨[], [1, 2], []⟩, ⟨[], [1, 2, 6, 7], []⟩, ⟨[], [1, 2, 6, 7], []⟩, ⟨[], [1, 2, 6, 7, 8], []⟩, ⟨[], [1, 2, 3, 4, 6, 7], []⟩, ⟨[], [1, 2, 6, 7], []⟩, ⟨[], [1, 2, 6, 7], []⟩, ⟨[], [2], []⟩]
theorem b_journal_twin : Body Tryz.prog 45 [] h_journal_twin c_journal_twin 27 [.cell 2 27] := body_of Tryz.func45 (by kernel_rfl) (by kernel_rfl) (by kernel_rfl) (by kernel_rfl)
def c_journal_point : C := (.seq (.seq (.reg ([⟨some 1, .box 32 (.tmp 0), none⟩, ⟨some 2, .assign (.const (.slice none 0 0)), none⟩])) (.keep [1])) (.seq (.seq (.draw ([⟨⟨some 3, .fieldAddr 32 (.tmp 1) 1, none⟩, []⟩, ⟨⟨some 4, .fieldAddr 29 (.tmp 3) 2, none⟩, []⟩, ⟨⟨some 5, .load 3 (.tmp 4), none⟩, []⟩, ⟨⟨some 6, .buildSlice 131 1 #[(0, (.tmp 5))], none⟩, []⟩, ⟨⟨some 7, .call { callee := .value (.func 44), args := #[(.const (.slice none 0 0)), (.tmp 6)], argTypes := #[22, 131] }, none⟩, []⟩, ⟨⟨some 8, .fieldAddr 32 (.tmp 1) 2, none⟩, [0, 1, 2, 3, 4]⟩, ⟨⟨some 9, .slice 30 (.tmp 8) none none none, none⟩, [0, 1, 2, 3, 4]⟩, ⟨⟨some 10, .call { callee := .value (.func 44), args := #[(.tmp 7), (.tmp 9)], argTypes := #[22, 131] }, none⟩, []⟩, ⟨⟨some 2, .assign (.tmp 10), none⟩, []⟩])) (.keep [2])) .ret))
attribute [go_sem ↓] c_journal_point
def h_journal_point : List Hint := [⟨[], [1], []⟩, ⟨[], [2], []⟩]
theorem b_journal_point : Body Tryz.prog 52 [] h_journal_point c_journal_point 11 [.tmp 2] := body_of Tryz.func52 (by kernel_rfl) (by kernel_rfl) (by kernel_rfl) (by kernel_rfl)
def c_journal_base : C := (.seq (.seq (.reg ([⟨some 1, .box 27 (.tmp 0), none⟩, ⟨some 2, .assign (.const (.int .i64 0)), none⟩, ⟨some 3, .alloc 30, none⟩, ⟨some 4, .assign (.const (.bool false)), none⟩])) (.keep [1, 3])) (.seq (.seq (.reg ([⟨some 10, .load 27 (.tmp 1), none⟩, ⟨some 11, .call { callee := .value (.func 59), args := #[(.tmp 10)], argTypes := #[27] }, none⟩, ⟨some 9, .move (.tmp 11), none⟩, ⟨some 12, .extract (.tmp 9) 0, none⟩, ⟨some 13, .extract (.tmp 9) 1, none⟩, ⟨some 14, .extract (.tmp 9) 2, none⟩, ⟨some 5, .assign (.tmp 12), none⟩, ⟨some 6, .assign (.tmp 13), none⟩, ⟨some 7, .assign (.tmp 14), none⟩])) (.keep [3, 6, 7])) (.seq (.seq (.seq (.reg ([⟨some 15, .move (.tmp 7), none⟩, ⟨some 16, .binOp .eql 38 (.tmp 15) (.const (.int .i64 6)) 38, none⟩])) (.keep [3, 6, 7, 16])) (.cond (.tmp 16) (.seq (.seq (.draw ([⟨⟨some 17, .load 30 (.tmp 3), none⟩, []⟩, ⟨⟨some 2, .assign (.const (.int .i64 0)), none⟩, [0]⟩, ⟨⟨none, .store 30 (.tmp 3) (.tmp 17), none⟩, []⟩, ⟨⟨some 4, .assign (.const (.bool true)), none⟩, []⟩])) (.keep [2, 3, 4])) .ret) .skip)) (.seq (.seq (.seq (.reg ([⟨some 18, .move (.tmp 7), none⟩, ⟨some 19, .binOp .neq 38 (.tmp 18) (.const (.int .i64 0)) 38, none⟩, ⟨some 20, .move (.tmp 19), none⟩, ⟨some 21, .move (.tmp 6), some (20, false)⟩, ⟨some 22, .call { callee := .builtin .len, args := #[(.tmp 21)], argTypes := #[22] }, some (20, false)⟩, ⟨some 23, .binOp .neq 3 (.tmp 22) (.const (.int .i64 72)) 3, some (20, false)⟩, ⟨some 24, .pick (.tmp 20) (.const (.bool true)) (.tmp 23), none⟩])) (.keep [3, 6, 24])) (.cond (.tmp 24) (.seq (.seq (.draw ([⟨⟨some 25, .load 30 (.tmp 3), none⟩, []⟩, ⟨⟨some 2, .assign (.const (.int .i64 0)), none⟩, [0]⟩, ⟨⟨none, .store 30 (.tmp 3) (.tmp 25), none⟩, []⟩, ⟨⟨some 4, .assign (.const (.bool false)), none⟩, []⟩])) (.keep [2, 3, 4])) .ret) .skip)) (.seq (.seq (.seq (.reg ([⟨some 26, .move (.const (.int .i64 0)), none⟩])) (.keep [3, 6, 26])) (.block 0 (.loop [] [3, 6, 26] (.seq (.seq (.reg ([⟨some 27, .binOp .lss 3 (.tmp 26) (.const (.int .i64 8)) 3, none⟩])) (.keep [3, 6, 26, 27])) (.seq (.cond (.tmp 27) .skip (.exit 0)) (.seq (.block 1 (.seq (.seq (.reg ([⟨some 28, .move (.tmp 26), none⟩, ⟨some 8, .assign (.tmp 28), none⟩])) (.keep [3, 6, 8, 26])) (.seq (.reg ([⟨some 29, .move (.tmp 8), none⟩, ⟨some 30, .move (.tmp 6), none⟩, ⟨some 31, .move (.tmp 8), none⟩, ⟨some 32, .binOp .add 3 (.tmp 31) (.const (.int .i64 1)) 3, none⟩, ⟨some 33, .call { callee := .value (.func 106), args := #[(.tmp 30), (.tmp 32)], argTypes := #[22, 3] }, none⟩, ⟨some 34, .indexAddr 30 (.tmp 3) (.tmp 29), none⟩, ⟨none, .store 3 (.tmp 34) (.tmp 33), none⟩])) (.keep [3, 6, 26])))) (.seq (.reg ([⟨some 35, .binOp .add 3 (.tmp 26) (.const (.int .i64 1)) 3, none⟩, ⟨some 26, .move (.tmp 35), none⟩])) (.keep [3, 6, 26])))))))) (.seq (.seq (.reg ([⟨some 36, .move (.tmp 6), none⟩, ⟨some 37, .call { callee := .value (.func 106), args := #[(.tmp 36), (.const (.int .i64 0))], argTypes := #[22, 3] }, none⟩, ⟨some 2, .assign (.tmp 37), none⟩])) (.keep [2, 3])) (.seq (.seq (.draw ([⟨⟨some 38, .move (.tmp 2), none⟩, []⟩, ⟨⟨some 39, .load 30 (.tmp 3), none⟩, [0]⟩, ⟨⟨some 40, .move (.tmp 2), none⟩, [0, 1]⟩, ⟨⟨some 41, .binOp .geq 3 (.tmp 40) (.const (.int .i64 0)) 3, none⟩, [0, 1]⟩, ⟨⟨some 42, .move (.tmp 41), none⟩, [0, 1]⟩, ⟨⟨some 43, .move (.tmp 2), some (42, true)⟩, [0, 1]⟩, ⟨⟨some 44, .binOp .leq 3 (.tmp 43) (.const (.int .i64 1000000000)) 3, some (42, true)⟩, [0, 1]⟩, ⟨⟨some 45, .pick (.tmp 42) (.tmp 44) (.const (.bool false)), none⟩, [0, 1]⟩, ⟨⟨some 46, .move (.tmp 45), none⟩, [0, 1]⟩, ⟨⟨some 47, .load 30 (.tmp 3), some (46, true)⟩, [0, 1]⟩, ⟨⟨some 48, .call { callee := .value (.func 40), args := #[(.tmp 47)], argTypes := #[30] }, some (46, true)⟩, [0, 1]⟩, ⟨⟨some 49, .pick (.tmp 46) (.tmp 48) (.const (.bool false)), none⟩, [0, 1]⟩, ⟨⟨some 2, .assign (.tmp 38), none⟩, [1, 11]⟩, ⟨⟨none, .store 30 (.tmp 3) (.tmp 39), none⟩, [11]⟩, ⟨⟨some 4, .assign (.tmp 49), none⟩, []⟩])) (.keep [2, 3, 4])) .ret)))))))
attribute [go_sem ↓] c_journal_base
def h_journal_base : List Hint := [⟨[], [1, 3], []⟩, ⟨[], [3, 6, 7], []⟩, ⟨[], [3, 6, 7, 16], []⟩, ⟨[], [2, 3, 4], []⟩, ⟨[], [3, 6, 24], []⟩, ⟨[], [2, 3, 4], []⟩, ⟨[], [3, 6, 26], []⟩, ⟨[], [3, 6, 26], []⟩, ⟨[], [3, 6, 26, 27], []⟩, ⟨[], [3, 6, 8, 26], []⟩, ⟨[], [3, 6, 26], []⟩, ⟨[], [3, 6, 26], []⟩, ⟨[], [2, 3], []⟩, ⟨[], [2, 3, 4], []⟩]
theorem b_journal_base : Body Tryz.prog 60 [] h_journal_base c_journal_base 50 [.tmp 2, .cell 3 30, .tmp 4] := body_of Tryz.func60 (by kernel_rfl) (by kernel_rfl) (by kernel_rfl) (by kernel_rfl)
def kc78 : C := (.seq (.seq (.reg ([⟨some 24, .load 30 (.tmp 3), none⟩, ⟨none, .store 30 (.tmp 6) (.tmp 24), none⟩, ⟨some 7, .assign (.const (.bool false)), none⟩])) (.keep [6, 7])) .ret)
@[go_sem ↓] def uq98 := @unC _ _ kc78.eq_1
def kc79 : C := (.cond (.tmp 23) kc78 .skip)
@[go_sem ↓] def uq99 := @unC _ _ kc79.eq_1
def r_journal_replay_2 : List I := [⟨some 25, .move (.tmp 28), none⟩, ⟨some 29, .extract (.tmp 25) 0, none⟩, ⟨some 30, .extract (.tmp 25) 1, none⟩, ⟨some 8, .assign (.tmp 29), none⟩, ⟨some 9, .assign (.tmp 30), none⟩]
@[go_sem ↓] def uq100 := @unI _ _ r_journal_replay_2.eq_1
def kc80 : C := (.seq (.seq (.reg ([⟨some 33, .load 30 (.tmp 3), none⟩, ⟨none, .store 30 (.tmp 6) (.tmp 33), none⟩, ⟨some 7, .assign (.const (.bool false)), none⟩])) (.keep [6, 7])) .ret)
@[go_sem ↓] def uq101 := @unC _ _ kc80.eq_1
def kc81 : C := (.cond (.tmp 32) kc80 .skip)
@[go_sem ↓] def uq102 := @unC _ _ kc81.eq_1
def kc82 : C := (.seq (.seq (.reg ([⟨some 44, .load 30 (.tmp 3), none⟩, ⟨none, .store 30 (.tmp 6) (.tmp 44), none⟩, ⟨some 7, .assign (.const (.bool false)), none⟩])) (.keep [6, 7])) .ret)
@[go_sem ↓] def uq103 := @unC _ _ kc82.eq_1
def kc83 : C := (.cond (.tmp 43) kc82 .skip)
@[go_sem ↓] def uq104 := @unC _ _ kc83.eq_1
def d_journal_replay_7 : List D := [⟨⟨some 45, .move (.tmp 58), none⟩, []⟩, ⟨⟨some 59, .extract (.tmp 45) 0, none⟩, []⟩, ⟨⟨some 60, .extract (.tmp 45) 1, none⟩, [14]⟩, ⟨⟨some 12, .alloc 30, none⟩, [0, 1, 2, 3, 4, 5, 6, 7, 8, 9, 10, 11, 12, 13, 14, 15]⟩, ⟨⟨none, .store 30 (.tmp 12) (.tmp 59), none⟩, [15]⟩, ⟨⟨some 13, .assign (.tmp 60), none⟩, []⟩]
@[go_sem ↓] def uq105 := @unD _ _ d_journal_replay_7.eq_1
def d_journal_replay_8 : List D := ⟨⟨some 56, .build 34 #[(0, (.tmp 51)), (1, (.tmp 55))], none⟩, [0]⟩ :: ⟨⟨some 57, .buildSlice 35 1 #[(0, (.tmp 56))], none⟩, [0]⟩ :: ⟨⟨some 58, .call { callee := .value (.func 11), args := #[(.tmp 46), (.tmp 57)], argTypes := #[30, 35] }, none⟩, []⟩ :: d_journal_replay_7
@[go_sem ↓] def uq106 := @unD _ _ d_journal_replay_8.eq_1
def kc84 : C := (.seq (.seq (.reg ([⟨some 63, .load 30 (.tmp 3), none⟩, ⟨none, .store 30 (.tmp 6) (.tmp 63), none⟩, ⟨some 7, .assign (.const (.bool false)), none⟩])) (.keep [6, 7])) .ret)
@[go_sem ↓] def uq107 := @unC _ _ kc84.eq_1
def kc85 : C := (.cond (.tmp 62) kc84 .skip)
@[go_sem ↓] def uq108 := @unC _ _ kc85.eq_1
def kc86 : C := (.seq (.reg ([⟨some 64, .load 30 (.tmp 12), none⟩, ⟨none, .store 30 (.tmp 3) (.tmp 64), none⟩])) (.keep [3, 6, 34, 35, 36]))
@[go_sem ↓] def uq109 := @unC _ _ kc86.eq_1
def kc87 : C := (.seq (.seq (.seq (.reg ([⟨some 61, .move (.tmp 13), none⟩, ⟨some 62, .binOp .neq 38 (.tmp 61) (.const (.int .i64 0)) 38, none⟩])) (.keep [3, 6, 12, 34, 35, 36, 62])) kc85) kc86)
@[go_sem ↓] def uq110 := @unC _ _ kc87.eq_1
def kc88 : C := (.seq (.seq (.draw (⟨⟨some 46, .load 30 (.tmp 3), none⟩, []⟩ :: ⟨⟨some 47, .fieldAddr 111 (.tmp 11) 1, none⟩, [0]⟩ :: ⟨⟨some 48, .load 22 (.tmp 47), none⟩, [0]⟩ :: ⟨⟨some 49, .indexAddr 22 (.tmp 48) (.const (.int .i64 0)), none⟩, [0]⟩ :: ⟨⟨some 50, .load 5 (.tmp 49), none⟩, [0]⟩ :: ⟨⟨some 51, .convert 5 3 (.tmp 50), none⟩, [0]⟩ :: ⟨⟨some 52, .fieldAddr 111 (.tmp 11) 1, none⟩, [0, 1, 2, 3, 4, 5]⟩ :: ⟨⟨some 53, .load 22 (.tmp 52), none⟩, [0, 1, 2, 3, 4, 5]⟩ :: ⟨⟨some 54, .slice 22 (.tmp 53) (some (.const (.int .i64 1))) none none, none⟩, [0, 1, 2, 3, 4, 5]⟩ :: ⟨⟨some 55, .call { callee := .value (.func 106), args := #[(.tmp 54), (.const (.int .i64 0))], argTypes := #[22, 3] }, none⟩, [0, 1, 2, 3, 4, 5]⟩ :: d_journal_replay_8)) (.keep [3, 6, 12, 13, 34, 35, 36])) kc87)
@[go_sem ↓] def uq111 := @unC _ _ kc88.eq_1
def kc89 : C := (.seq (.seq (.seq (.reg ([⟨some 40, .fieldAddr 111 (.tmp 11) 1, none⟩, ⟨some 41, .load 22 (.tmp 40), none⟩, ⟨some 42, .call { callee := .builtin .len, args := #[(.tmp 41)], argTypes := #[22] }, none⟩, ⟨some 43, .binOp .neq 3 (.tmp 42) (.const (.int .i64 9)) 3, none⟩])) (.keep [3, 6, 11, 34, 35, 36, 43])) kc83) kc88)
@[go_sem ↓] def uq112 := @unC _ _ kc89.eq_1
def kc90 : C := (.seq (.reg ([⟨some 65, .binOp .add 3 (.tmp 36) (.const (.int .i64 1)) 3, none⟩, ⟨some 36, .move (.tmp 65), none⟩])) (.keep [3, 6, 34, 35, 36]))
@[go_sem ↓] def uq113 := @unC _ _ kc90.eq_1
def kc91 : C := (.seq (.block 1 (.seq (.seq (.reg ([⟨some 38, .indexAddr 125 (.tmp 34) (.tmp 36), none⟩, ⟨some 39, .load 111 (.tmp 38), none⟩, ⟨some 11, .alloc 111, none⟩, ⟨none, .store 111 (.tmp 11) (.tmp 39), none⟩])) (.keep [3, 6, 11, 34, 35, 36])) kc89)) kc90)
@[go_sem ↓] def uq114 := @unC _ _ kc91.eq_1
def kc92 : C := (.seq (.cond (.tmp 37) .skip (.exit 0)) kc91)
@[go_sem ↓] def uq115 := @unC _ _ kc92.eq_1
def kc93 : C := (.seq (.seq (.reg ([⟨some 37, .binOp .lss 3 (.tmp 36) (.tmp 35) 3, none⟩])) (.keep [3, 6, 34, 35, 36, 37])) kc92)
@[go_sem ↓] def uq116 := @unC _ _ kc93.eq_1
def kc94 : C := (.block 0 (.loop [] [3, 6, 34, 35, 36] kc93))
@[go_sem ↓] def uq117 := @unC _ _ kc94.eq_1
def kc95 : C := (.seq (.seq (.reg ([⟨some 66, .load 30 (.tmp 3), none⟩, ⟨none, .store 30 (.tmp 6) (.tmp 66), none⟩, ⟨some 7, .assign (.const (.bool true)), none⟩])) (.keep [6, 7])) .ret)
@[go_sem ↓] def uq118 := @unC _ _ kc95.eq_1
def kc96 : C := (.seq (.seq (.seq (.reg ([⟨some 34, .move (.tmp 8), none⟩, ⟨some 35, .call { callee := .builtin .len, args := #[(.tmp 34)], argTypes := #[125] }, none⟩, ⟨some 36, .move (.const (.int .i64 0)), none⟩])) (.keep [3, 6, 34, 35, 36])) kc94) kc95)
@[go_sem ↓] def uq119 := @unC _ _ kc96.eq_1
def kc97 : C := (.seq (.seq (.seq (.reg ([⟨some 31, .move (.tmp 9), none⟩, ⟨some 32, .binOp .neq 38 (.tmp 31) (.const (.int .i64 0)) 38, none⟩])) (.keep [3, 6, 8, 32])) kc81) kc96)
@[go_sem ↓] def uq120 := @unC _ _ kc97.eq_1
def kc98 : C := (.seq (.seq (.reg (⟨some 26, .load 29 (.tmp 4), none⟩ :: ⟨some 27, .move (.tmp 2), none⟩ :: ⟨some 28, .call { callee := .value (.func 107), args := #[(.tmp 26), (.tmp 27)], argTypes := #[29, 3] }, none⟩ :: r_journal_replay_2)) (.keep [3, 6, 8, 9])) kc97)
@[go_sem ↓] def uq121 := @unC _ _ kc98.eq_1
def kc99 : C := (.seq (.seq (.seq (.reg ([⟨some 14, .move (.tmp 2), none⟩, ⟨some 15, .fieldAddr 29 (.tmp 4) 1, none⟩, ⟨some 16, .load 3 (.tmp 15), none⟩, ⟨some 17, .binOp .lss 3 (.tmp 14) (.tmp 16) 3, none⟩, ⟨some 18, .move (.tmp 17), none⟩, ⟨some 19, .move (.tmp 2), some (18, false)⟩, ⟨some 20, .fieldAddr 29 (.tmp 4) 2, some (18, false)⟩, ⟨some 21, .load 3 (.tmp 20), some (18, false)⟩, ⟨some 22, .binOp .gtr 3 (.tmp 19) (.tmp 21) 3, some (18, false)⟩, ⟨some 23, .pick (.tmp 18) (.const (.bool true)) (.tmp 22), none⟩])) (.keep [2, 3, 4, 6, 23])) kc79) kc98)
@[go_sem ↓] def uq122 := @unC _ _ kc99.eq_1
def c_journal_replay : C := (.seq (.seq (.reg ([⟨some 3, .box 30 (.tmp 0), none⟩, ⟨some 4, .box 29 (.tmp 1), none⟩, ⟨some 6, .alloc 30, none⟩, ⟨some 7, .assign (.const (.bool false)), none⟩])) (.keep [2, 3, 4, 6])) kc99)
attribute [go_sem ↓] c_journal_replay
def h_journal_replay : List Hint := [⟨[], [2, 3, 4, 6], []⟩, ⟨[], [2, 3, 4, 6, 23], []⟩, ⟨[], [6, 7], []⟩, ⟨[], [3, 6, 8, 9], []⟩, ⟨[], [3, 6, 8, 32], []⟩, ⟨[], [6, 7], []⟩, ⟨[], [3, 6, 34, 35, 36], []⟩, ⟨[], [3, 6, 34, 35, 36], []⟩, ⟨[], [3, 6, 34, 35, 36, 37], []⟩, ⟨[], [3, 6, 11, 34, 35, 36], []⟩, ⟨[], [3, 6, 11, 34, 35, 36, 43], []⟩, ⟨[], [6, 7], []⟩, ⟨[], [3, 6, 12, 13, 34, 35, 36], []⟩, ⟨[], [3, 6, 12, 34, 35, 36, 62], []⟩, ⟨[], [6, 7], []⟩, ⟨[], [3, 6, 34, 35, 36], []⟩, ⟨[], [3, 6, 34, 35, 36], []⟩, ⟨[], [6, 7], []⟩]
theorem b_journal_replay : Body Tryz.prog 61 [] h_journal_replay c_journal_replay 67 [.cell 6 30, .tmp 7] := body_of Tryz.func61 (by kernel_rfl) (by kernel_rfl) (by kernel_rfl) (by kernel_rfl)
def c_ref06_base : C := (.seq (.seq (.reg ([⟨some 1, .box 27 (.tmp 0), none⟩, ⟨some 2, .assign (.const (.int .i64 0)), none⟩, ⟨some 3, .alloc 30, none⟩, ⟨some 4, .assign (.const (.bool false)), none⟩])) (.keep [1, 3])) (.seq (.seq (.reg ([⟨some 5, .alloc 30, none⟩])) (.keep [1, 3, 5])) (.seq (.seq (.reg ([⟨some 11, .load 27 (.tmp 1), none⟩, ⟨some 12, .call { callee := .value (.func 63), args := #[(.tmp 11)], argTypes := #[27] }, none⟩, ⟨some 10, .move (.tmp 12), none⟩, ⟨some 13, .extract (.tmp 10) 0, none⟩, ⟨some 14, .extract (.tmp 10) 1, none⟩, ⟨some 6, .alloc 111, none⟩, ⟨none, .store 111 (.tmp 6) (.tmp 13), none⟩, ⟨some 7, .assign (.tmp 14), none⟩])) (.keep [3, 5, 6, 7])) (.seq (.seq (.seq (.reg ([⟨some 15, .move (.tmp 7), none⟩, ⟨some 16, .unOp .not 4 (.tmp 15), none⟩])) (.keep [3, 5, 6, 16])) (.cond (.tmp 16) (.seq (.seq (.draw ([⟨⟨some 17, .load 30 (.tmp 5), none⟩, []⟩, ⟨⟨some 2, .assign (.const (.int .i64 0)), none⟩, [0]⟩, ⟨⟨none, .store 30 (.tmp 3) (.tmp 17), none⟩, []⟩, ⟨⟨some 4, .assign (.const (.bool true)), none⟩, []⟩])) (.keep [2, 3, 4])) .ret) .skip)) (.seq (.seq (.seq (.reg ([⟨some 18, .fieldAddr 111 (.tmp 6) 1, none⟩, ⟨some 19, .load 22 (.tmp 18), none⟩, ⟨some 20, .call { callee := .builtin .len, args := #[(.tmp 19)], argTypes := #[22] }, none⟩, ⟨some 21, .binOp .neq 3 (.tmp 20) (.const (.int .i64 72)) 3, none⟩])) (.keep [3, 5, 6, 21])) (.cond (.tmp 21) (.seq (.seq (.draw ([⟨⟨some 22, .load 30 (.tmp 5), none⟩, []⟩, ⟨⟨some 2, .assign (.const (.int .i64 0)), none⟩, [0]⟩, ⟨⟨none, .store 30 (.tmp 3) (.tmp 22), none⟩, []⟩, ⟨⟨some 4, .assign (.const (.bool false)), none⟩, []⟩])) (.keep [2, 3, 4])) .ret) .skip)) (.seq (.seq (.seq (.reg ([⟨some 8, .assign (.const (.int .i64 0)), none⟩])) (.keep [3, 5, 6, 8])) (.block 0 (.loop [] [3, 5, 6, 8] (.seq (.seq (.seq (.reg ([⟨some 23, .move (.tmp 8), none⟩, ⟨some 24, .binOp .lss 3 (.tmp 23) (.const (.int .i64 8)) 3, none⟩])) (.keep [3, 5, 6, 8, 24])) (.cond (.tmp 24) .skip (.exit 0))) (.seq (.block 1 (.seq (.reg ([⟨some 27, .move (.tmp 8), none⟩, ⟨some 28, .fieldAddr 111 (.tmp 6) 1, none⟩, ⟨some 29, .load 22 (.tmp 28), none⟩, ⟨some 30, .move (.tmp 8), none⟩, ⟨some 31, .binOp .add 3 (.tmp 30) (.const (.int .i64 1)) 3, none⟩, ⟨some 32, .binOp .mul 3 (.const (.int .i64 8)) (.tmp 31) 3, none⟩, ⟨some 33, .slice 22 (.tmp 29) (some (.tmp 32)) none none, none⟩, ⟨some 34, .call { callee := .value (.func 109), args := #[(.tmp 33)], argTypes := #[22] }, none⟩, ⟨some 35, .indexAddr 30 (.tmp 5) (.tmp 27), none⟩, ⟨none, .store 3 (.tmp 35) (.tmp 34), none⟩])) (.keep [3, 5, 6, 8]))) (.seq (.reg ([⟨some 25, .move (.tmp 8), none⟩, ⟨some 26, .binOp .add 3 (.tmp 25) (.const (.int .i64 1)) 3, none⟩, ⟨some 8, .assign (.tmp 26), none⟩])) (.keep [3, 5, 6, 8]))))))) (.seq (.seq (.reg ([⟨some 36, .fieldAddr 111 (.tmp 6) 1, none⟩, ⟨some 37, .load 22 (.tmp 36), none⟩, ⟨some 38, .call { callee := .value (.func 109), args := #[(.tmp 37)], argTypes := #[22] }, none⟩, ⟨some 9, .assign (.tmp 38), none⟩])) (.keep [3, 5, 9])) (.seq (.seq (.draw ([⟨⟨some 39, .move (.tmp 9), none⟩, []⟩, ⟨⟨some 40, .load 30 (.tmp 5), none⟩, [0]⟩, ⟨⟨some 41, .move (.tmp 9), none⟩, [0, 1]⟩, ⟨⟨some 42, .binOp .geq 3 (.tmp 41) (.const (.int .i64 0)) 3, none⟩, [0, 1]⟩, ⟨⟨some 43, .move (.tmp 42), none⟩, [0, 1]⟩, ⟨⟨some 44, .move (.tmp 9), some (43, true)⟩, [0, 1]⟩, ⟨⟨some 45, .binOp .leq 3 (.tmp 44) (.const (.int .i64 1000000000)) 3, some (43, true)⟩, [0, 1]⟩, ⟨⟨some 46, .pick (.tmp 43) (.tmp 45) (.const (.bool false)), none⟩, [0, 1]⟩, ⟨⟨some 47, .move (.tmp 46), none⟩, [0, 1]⟩, ⟨⟨some 48, .load 30 (.tmp 5), some (47, true)⟩, [0, 1]⟩, ⟨⟨some 49, .call { callee := .value (.func 42), args := #[(.tmp 48)], argTypes := #[30] }, some (47, true)⟩, [0, 1]⟩, ⟨⟨some 50, .pick (.tmp 47) (.tmp 49) (.const (.bool false)), none⟩, [0, 1]⟩, ⟨⟨some 2, .assign (.tmp 39), none⟩, [1, 11]⟩, ⟨⟨none, .store 30 (.tmp 3) (.tmp 40), none⟩, [11]⟩, ⟨⟨some 4, .assign (.tmp 50), none⟩, []⟩])) (.keep [2, 3, 4])) .ret))))))))
attribute [go_sem ↓] c_ref06_base
def h_ref06_base : List Hint := [⟨[], [1, 3], []⟩, ⟨[], [1, 3, 5], []⟩, ⟨[], [3, 5, 6, 7], []⟩, ⟨[], [3, 5, 6, 16], []⟩, ⟨[], [2, 3, 4], []⟩, ⟨[], [3, 5, 6, 21], []⟩, ⟨[], [2, 3, 4], []⟩, ⟨[], [3, 5, 6, 8], []⟩, ⟨[], [3, 5, 6, 8], []⟩, ⟨[], [3, 5, 6, 8, 24], []⟩, ⟨[], [3, 5, 6, 8], []⟩, ⟨[], [3, 5, 6, 8], []⟩, ⟨[], [3, 5, 9], []⟩, ⟨[], [2, 3, 4], []⟩]
theorem b_ref06_base : Body Tryz.prog 64 [] h_ref06_base c_ref06_base 51 [.tmp 2, .cell 3 30, .tmp 4] := body_of Tryz.func64 (by kernel_rfl) (by kernel_rfl) (by kernel_rfl) (by kernel_rfl)
def c_ref06_replayed : C := (.seq (.seq (.reg ([⟨some 3, .box 30 (.tmp 0), none⟩, ⟨some 4, .box 29 (.tmp 1), none⟩, ⟨some 6, .alloc 30, none⟩, ⟨some 7, .assign (.const (.bool false)), none⟩])) (.keep [2, 3, 4, 6])) (.seq (.seq (.reg ([⟨some 16, .fieldAddr 29 (.tmp 4) 0, none⟩, ⟨some 17, .load 24 (.tmp 16), none⟩, ⟨some 18, .call { callee := .value (.func 103), args := #[(.tmp 17)], argTypes := #[24] }, none⟩, ⟨some 15, .move (.tmp 18), none⟩, ⟨some 19, .extract (.tmp 15) 0, none⟩, ⟨some 20, .extract (.tmp 15) 1, none⟩, ⟨some 8, .assign (.tmp 19), none⟩, ⟨some 9, .assign (.tmp 20), none⟩])) (.keep [2, 3, 6, 8])) (.seq (.seq (.seq (.reg ([⟨some 10, .assign (.const (.int .i64 0)), none⟩])) (.keep [2, 3, 6, 8, 10])) (.block 0 (.loop [] [2, 3, 6, 8, 10] (.seq (.seq (.seq (.reg ([⟨some 21, .move (.tmp 10), none⟩, ⟨some 22, .move (.tmp 8), none⟩, ⟨some 23, .call { callee := .builtin .len, args := #[(.tmp 22)], argTypes := #[125] }, none⟩, ⟨some 24, .binOp .lss 3 (.tmp 21) (.tmp 23) 3, none⟩])) (.keep [2, 3, 6, 8, 10, 24])) (.cond (.tmp 24) .skip (.exit 0))) (.seq (.block 1 (.seq (.seq (.seq (.reg ([⟨some 27, .move (.tmp 8), none⟩, ⟨some 28, .move (.tmp 10), none⟩, ⟨some 29, .indexAddr 125 (.tmp 27) (.tmp 28), none⟩, ⟨some 30, .fieldAddr 111 (.tmp 29) 0, none⟩, ⟨some 31, .load 3 (.tmp 30), none⟩, ⟨some 32, .move (.tmp 2), none⟩, ⟨some 33, .binOp .lss 3 (.tmp 31) (.tmp 32) 3, none⟩])) (.keep [2, 3, 6, 8, 10, 33])) (.cond (.tmp 33) (.exit 1) .skip)) (.seq (.seq (.reg ([⟨some 35, .move (.tmp 8), none⟩, ⟨some 36, .move (.tmp 10), none⟩, ⟨some 37, .indexAddr 125 (.tmp 35) (.tmp 36), none⟩, ⟨some 38, .fieldAddr 111 (.tmp 37) 1, none⟩, ⟨some 39, .load 22 (.tmp 38), none⟩, ⟨some 40, .call { callee := .value (.func 110), args := #[(.tmp 39)], argTypes := #[22] }, none⟩, ⟨some 34, .move (.tmp 40), none⟩, ⟨some 41, .extract (.tmp 34) 0, none⟩, ⟨some 42, .extract (.tmp 34) 1, none⟩, ⟨some 11, .alloc 34, none⟩, ⟨none, .store 34 (.tmp 11) (.tmp 41), none⟩, ⟨some 12, .assign (.tmp 42), none⟩])) (.keep [2, 3, 6, 8, 10, 11, 12])) (.seq (.seq (.seq (.reg ([⟨some 43, .move (.tmp 12), none⟩, ⟨some 44, .unOp .not 4 (.tmp 43), none⟩])) (.keep [2, 3, 6, 8, 10, 11, 44])) (.cond (.tmp 44) (.seq (.seq (.reg ([⟨some 45, .load 30 (.tmp 3), none⟩, ⟨none, .store 30 (.tmp 6) (.tmp 45), none⟩, ⟨some 7, .assign (.const (.bool false)), none⟩])) (.keep [6, 7])) .ret) .skip)) (.seq (.seq (.reg ([⟨some 47, .load 30 (.tmp 3), none⟩, ⟨some 48, .load 34 (.tmp 11), none⟩, ⟨some 49, .buildSlice 35 1 #[(0, (.tmp 48))], none⟩, ⟨some 50, .call { callee := .value (.func 12), args := #[(.tmp 47), (.tmp 49)], argTypes := #[30, 35] }, none⟩, ⟨some 46, .move (.tmp 50), none⟩, ⟨some 51, .extract (.tmp 46) 0, none⟩, ⟨some 52, .extract (.tmp 46) 1, none⟩, ⟨some 13, .alloc 30, none⟩, ⟨none, .store 30 (.tmp 13) (.tmp 51), none⟩, ⟨some 14, .assign (.tmp 52), none⟩])) (.keep [2, 3, 6, 8, 10, 13, 14])) (.seq (.seq (.seq (.reg ([⟨some 53, .move (.tmp 14), none⟩, ⟨some 54, .binOp .neq 3 (.tmp 53) (.const (.int .i64 0)) 3, none⟩])) (.keep [2, 3, 6, 8, 10, 13, 54])) (.cond (.tmp 54) (.seq (.seq (.reg ([⟨some 55, .load 30 (.tmp 3), none⟩, ⟨none, .store 30 (.tmp 6) (.tmp 55), none⟩, ⟨some 7, .assign (.const (.bool false)), none⟩])) (.keep [6, 7])) .ret) .skip)) (.seq (.reg ([⟨some 56, .load 30 (.tmp 13), none⟩, ⟨none, .store 30 (.tmp 3) (.tmp 56), none⟩])) (.keep [2, 3, 6, 8, 10])))))))) (.seq (.reg ([⟨some 25, .move (.tmp 10), none⟩, ⟨some 26, .binOp .add 3 (.tmp 25) (.const (.int .i64 1)) 3, none⟩, ⟨some 10, .assign (.tmp 26), none⟩])) (.keep [2, 3, 6, 8, 10]))))))) (.seq (.seq (.reg ([⟨some 57, .load 30 (.tmp 3), none⟩, ⟨none, .store 30 (.tmp 6) (.tmp 57), none⟩, ⟨some 7, .assign (.const (.bool true)), none⟩])) (.keep [6, 7])) .ret))))
attribute [go_sem ↓] c_ref06_replayed
def h_ref06_replayed : List Hint := [⟨[], [2, 3, 4, 6], []⟩, ⟨[], [2, 3, 6, 8], []⟩, ⟨[], [2, 3, 6, 8, 10], []⟩, ⟨[], [2, 3, 6, 8, 10], []⟩, ⟨[], [2, 3, 6, 8, 10, 24], []⟩, ⟨[], [2, 3, 6, 8, 10, 33], []⟩, ⟨[], [2, 3, 6, 8, 10, 11, 12], []⟩, ⟨[], [2, 3, 6, 8, 10, 11, 44], []⟩, ⟨[], [6, 7], []⟩, ⟨[], [2, 3, 6, 8, 10, 13, 14], []⟩, ⟨[], [2, 3, 6, 8, 10, 13, 54], []⟩, ⟨[], [6, 7], []⟩, ⟨[], [2, 3, 6, 8, 10], []⟩, ⟨[], [2, 3, 6, 8, 10], []⟩, ⟨[], [6, 7], []⟩]
theorem b_ref06_replayed : Body Tryz.prog 65 [] h_ref06_replayed c_ref06_replayed 58 [.cell 6 30, .tmp 7] := body_of Tryz.func65 (by kernel_rfl) (by kernel_rfl) (by kernel_rfl) (by kernel_rfl)
def c_slices_Min : C := (.seq (.seq (.reg ([⟨some 2, .assign (.const (.int .i64 0)), none⟩])) (.keep [0])) (.seq (.seq (.seq (.reg ([⟨some 5, .move (.tmp 0), none⟩, ⟨some 6, .call { callee := .builtin .len, args := #[(.tmp 5)], argTypes := #[131] }, none⟩, ⟨some 7, .binOp .lss 3 (.tmp 6) (.const (.int .i64 1)) 3, none⟩])) (.keep [0, 7])) (.cond (.tmp 7) (.seq (.reg ([⟨some 8, .makeInterface 9 (.const (.string ⟨#[115, 108, 105, 99, 101, 115, 46, 77, 105, 110, 58, 32, 101, 109, 112, 116, 121, 32, 108, 105, 115, 116]⟩)), none⟩, ⟨none, .panic (.tmp 8), none⟩])) (.keep [0])) .skip)) (.seq (.seq (.reg ([⟨some 9, .move (.tmp 0), none⟩, ⟨some 10, .indexAddr 131 (.tmp 9) (.const (.int .i64 0)), none⟩, ⟨some 11, .load 3 (.tmp 10), none⟩, ⟨some 3, .assign (.tmp 11), none⟩])) (.keep [0, 3])) (.seq (.seq (.seq (.reg ([⟨some 4, .assign (.const (.int .i64 1)), none⟩])) (.keep [0, 3, 4])) (.block 0 (.loop [] [0, 3, 4] (.seq (.seq (.seq (.reg ([⟨some 12, .move (.tmp 4), none⟩, ⟨some 13, .move (.tmp 0), none⟩, ⟨some 14, .call { callee := .builtin .len, args := #[(.tmp 13)], argTypes := #[131] }, none⟩, ⟨some 15, .binOp .lss 3 (.tmp 12) (.tmp 14) 3, none⟩])) (.keep [0, 3, 4, 15])) (.cond (.tmp 15) .skip (.exit 0))) (.seq (.block 1 (.seq (.reg ([⟨some 18, .move (.tmp 3), none⟩, ⟨some 19, .move (.tmp 0), none⟩, ⟨some 20, .move (.tmp 4), none⟩, ⟨some 21, .indexAddr 131 (.tmp 19) (.tmp 20), none⟩, ⟨some 22, .load 3 (.tmp 21), none⟩, ⟨some 23, .call { callee := .builtin .min, args := #[(.tmp 18), (.tmp 22)], argTypes := #[3, 3] }, none⟩, ⟨some 3, .assign (.tmp 23), none⟩])) (.keep [0, 3, 4]))) (.seq (.reg ([⟨some 16, .move (.tmp 4), none⟩, ⟨some 17, .binOp .add 3 (.tmp 16) (.const (.int .i64 1)) 3, none⟩, ⟨some 4, .assign (.tmp 17), none⟩])) (.keep [0, 3, 4]))))))) (.seq (.seq (.reg ([⟨some 24, .move (.tmp 3), none⟩, ⟨some 2, .assign (.tmp 24), none⟩])) (.keep [2])) .ret)))))
attribute [go_sem ↓] c_slices_Min
def h_slices_Min : List Hint := [⟨[], [0], []⟩, ⟨[], [0, 7], []⟩, ⟨[], [0], []⟩, ⟨[], [0, 3], []⟩, ⟨[], [0, 3, 4], []⟩, ⟨[], [0, 3, 4], []⟩, ⟨[], [0, 3, 4, 15], []⟩, ⟨[], [0, 3, 4], []⟩, ⟨[], [0, 3, 4], []⟩, ⟨[], [2], []⟩]
theorem b_slices_Min : Body Tryz.prog 84 [] h_slices_Min c_slices_Min 25 [.tmp 2] := body_of Tryz.func84 (by kernel_rfl) (by kernel_rfl) (by kernel_rfl) (by kernel_rfl)
def c_slices_Max : C := (.seq (.seq (.reg ([⟨some 2, .assign (.const (.int .i64 0)), none⟩])) (.keep [0])) (.seq (.seq (.seq (.reg ([⟨some 5, .move (.tmp 0), none⟩, ⟨some 6, .call { callee := .builtin .len, args := #[(.tmp 5)], argTypes := #[131] }, none⟩, ⟨some 7, .binOp .lss 3 (.tmp 6) (.const (.int .i64 1)) 3, none⟩])) (.keep [0, 7])) (.cond (.tmp 7) (.seq (.reg ([⟨some 8, .makeInterface 9 (.const (.string ⟨#[115, 108, 105, 99, 101, 115, 46, 77, 97, 120, 58, 32, 101, 109, 112, 116, 121, 32, 108, 105, 115, 116]⟩)), none⟩, ⟨none, .panic (.tmp 8), none⟩])) (.keep [0])) .skip)) (.seq (.seq (.reg ([⟨some 9, .move (.tmp 0), none⟩, ⟨some 10, .indexAddr 131 (.tmp 9) (.const (.int .i64 0)), none⟩, ⟨some 11, .load 3 (.tmp 10), none⟩, ⟨some 3, .assign (.tmp 11), none⟩])) (.keep [0, 3])) (.seq (.seq (.seq (.reg ([⟨some 4, .assign (.const (.int .i64 1)), none⟩])) (.keep [0, 3, 4])) (.block 0 (.loop [] [0, 3, 4] (.seq (.seq (.seq (.reg ([⟨some 12, .move (.tmp 4), none⟩, ⟨some 13, .move (.tmp 0), none⟩, ⟨some 14, .call { callee := .builtin .len, args := #[(.tmp 13)], argTypes := #[131] }, none⟩, ⟨some 15, .binOp .lss 3 (.tmp 12) (.tmp 14) 3, none⟩])) (.keep [0, 3, 4, 15])) (.cond (.tmp 15) .skip (.exit 0))) (.seq (.block 1 (.seq (.reg ([⟨some 18, .move (.tmp 3), none⟩, ⟨some 19, .move (.tmp 0), none⟩, ⟨some 20, .move (.tmp 4), none⟩, ⟨some 21, .indexAddr 131 (.tmp 19) (.tmp 20), none⟩, ⟨some 22, .load 3 (.tmp 21), none⟩, ⟨some 23, .call { callee := .builtin .max, args := #[(.tmp 18), (.tmp 22)], argTypes := #[3, 3] }, none⟩, ⟨some 3, .assign (.tmp 23), none⟩])) (.keep [0, 3, 4]))) (.seq (.reg ([⟨some 16, .move (.tmp 4), none⟩, ⟨some 17, .binOp .add 3 (.tmp 16) (.const (.int .i64 1)) 3, none⟩, ⟨some 4, .assign (.tmp 17), none⟩])) (.keep [0, 3, 4]))))))) (.seq (.seq (.reg ([⟨some 24, .move (.tmp 3), none⟩, ⟨some 2, .assign (.tmp 24), none⟩])) (.keep [2])) .ret)))))
attribute [go_sem ↓] c_slices_Max
def h_slices_Max : List Hint := [⟨[], [0], []⟩, ⟨[], [0, 7], []⟩, ⟨[], [0], []⟩, ⟨[], [0, 3], []⟩, ⟨[], [0, 3, 4], []⟩, ⟨[], [0, 3, 4], []⟩, ⟨[], [0, 3, 4, 15], []⟩, ⟨[], [0, 3, 4], []⟩, ⟨[], [0, 3, 4], []⟩, ⟨[], [2], []⟩]
theorem b_slices_Max : Body Tryz.prog 85 [] h_slices_Max c_slices_Max 25 [.tmp 2] := body_of Tryz.func85 (by kernel_rfl) (by kernel_rfl) (by kernel_rfl) (by kernel_rfl)
def c_journal_get : C := (.seq (.seq (.reg ([⟨some 4, .assign (.const (.int .i64 0)), none⟩])) (.keep [0, 1])) (.seq (.seq (.reg ([⟨some 5, .assign (.const (.int .u64 0)), none⟩])) (.keep [0, 1, 5])) (.seq (.seq (.seq (.reg ([⟨some 7, .move (.const (.int .i64 0)), none⟩])) (.keep [0, 1, 5, 7])) (.block 0 (.loop [] [0, 1, 5, 7] (.seq (.seq (.reg ([⟨some 8, .binOp .lss 3 (.tmp 7) (.const (.int .i64 8)) 3, none⟩])) (.keep [0, 1, 5, 7, 8])) (.seq (.cond (.tmp 8) .skip (.exit 0)) (.seq (.block 1 (.seq (.seq (.reg ([⟨some 9, .move (.tmp 7), none⟩, ⟨some 6, .assign (.tmp 9), none⟩])) (.keep [0, 1, 5, 6, 7])) (.seq (.reg ([⟨some 10, .move (.tmp 5), none⟩, ⟨some 11, .move (.tmp 0), none⟩, ⟨some 12, .move (.tmp 1), none⟩, ⟨some 13, .binOp .mul 3 (.const (.int .i64 8)) (.tmp 12) 3, none⟩, ⟨some 14, .move (.tmp 6), none⟩, ⟨some 15, .binOp .add 3 (.tmp 13) (.tmp 14) 3, none⟩, ⟨some 16, .indexAddr 22 (.tmp 11) (.tmp 15), none⟩, ⟨some 17, .load 5 (.tmp 16), none⟩, ⟨some 18, .convert 5 140 (.tmp 17), none⟩, ⟨some 19, .move (.tmp 6), none⟩, ⟨some 20, .binOp .mul 3 (.const (.int .i64 8)) (.tmp 19) 3, none⟩, ⟨some 21, .binOp .shl 140 (.tmp 18) (.tmp 20) 3, none⟩, ⟨some 22, .binOp .or 140 (.tmp 10) (.tmp 21) 140, none⟩, ⟨some 5, .assign (.tmp 22), none⟩])) (.keep [0, 1, 5, 7])))) (.seq (.reg ([⟨some 23, .binOp .add 3 (.tmp 7) (.const (.int .i64 1)) 3, none⟩, ⟨some 7, .move (.tmp 23), none⟩])) (.keep [0, 1, 5, 7])))))))) (.seq (.seq (.reg ([⟨some 24, .move (.tmp 5), none⟩, ⟨some 25, .convert 140 3 (.tmp 24), none⟩, ⟨some 4, .assign (.tmp 25), none⟩])) (.keep [4])) .ret))))
attribute [go_sem ↓] c_journal_get
def h_journal_get : List Hint := [⟨[], [0, 1], []⟩, ⟨[], [0, 1, 5], []⟩, ⟨[], [0, 1, 5, 7], []⟩, ⟨[], [0, 1, 5, 7], []⟩, ⟨[], [0, 1, 5, 7, 8], []⟩, ⟨[], [0, 1, 5, 6, 7], []⟩, ⟨[], [0, 1, 5, 7], []⟩, ⟨[], [0, 1, 5, 7], []⟩, ⟨[], [4], []⟩]
theorem b_journal_get : Body Tryz.prog 106 [] h_journal_get c_journal_get 26 [.tmp 4] := body_of Tryz.func106 (by kernel_rfl) (by kernel_rfl) (by kernel_rfl) (by kernel_rfl)
def c_ref06_read : C := (.seq (.seq (.reg ([⟨some 2, .assign (.const (.int .i64 0)), none⟩])) (.keep [0])) (.seq (.seq (.reg ([⟨some 3, .assign (.const (.int .u64 0)), none⟩])) (.keep [0, 3])) (.seq (.seq (.seq (.reg ([⟨some 4, .assign (.const (.int .i64 7)), none⟩])) (.keep [0, 3, 4])) (.block 0 (.loop [] [0, 3, 4] (.seq (.seq (.seq (.reg ([⟨some 5, .move (.tmp 4), none⟩, ⟨some 6, .binOp .geq 3 (.tmp 5) (.const (.int .i64 0)) 3, none⟩])) (.keep [0, 3, 4, 6])) (.cond (.tmp 6) .skip (.exit 0))) (.seq (.block 1 (.seq (.reg ([⟨some 9, .move (.tmp 3), none⟩, ⟨some 10, .binOp .mul 140 (.const (.int .u64 256)) (.tmp 9) 140, none⟩, ⟨some 11, .move (.tmp 0), none⟩, ⟨some 12, .move (.tmp 4), none⟩, ⟨some 13, .indexAddr 22 (.tmp 11) (.tmp 12), none⟩, ⟨some 14, .load 5 (.tmp 13), none⟩, ⟨some 15, .convert 5 140 (.tmp 14), none⟩, ⟨some 16, .binOp .add 140 (.tmp 10) (.tmp 15) 140, none⟩, ⟨some 3, .assign (.tmp 16), none⟩])) (.keep [0, 3, 4]))) (.seq (.reg ([⟨some 7, .move (.tmp 4), none⟩, ⟨some 8, .binOp .sub 3 (.tmp 7) (.const (.int .i64 1)) 3, none⟩, ⟨some 4, .assign (.tmp 8), none⟩])) (.keep [0, 3, 4]))))))) (.seq (.seq (.reg ([⟨some 17, .move (.tmp 3), none⟩, ⟨some 18, .convert 140 3 (.tmp 17), none⟩, ⟨some 2, .assign (.tmp 18), none⟩])) (.keep [2])) .ret))))
attribute [go_sem ↓] c_ref06_read
def h_ref06_read : List Hint := [⟨[], [0], []⟩, ⟨[], [0, 3], []⟩, ⟨[], [0, 3, 4], []⟩, ⟨[], [0, 3, 4], []⟩, ⟨[], [0, 3, 4, 6], []⟩, ⟨[], [0, 3, 4], []⟩, ⟨[], [0, 3, 4], []⟩, ⟨[], [2], []⟩]
theorem b_ref06_read : Body Tryz.prog 109 [] h_ref06_read c_ref06_read 19 [.tmp 2] := body_of Tryz.func109 (by kernel_rfl) (by kernel_rfl) (by kernel_rfl) (by kernel_rfl)
def c_ref06_moved : C := (.seq (.seq (.reg ([⟨some 2, .alloc 34, none⟩, ⟨some 3, .assign (.const (.bool false)), none⟩])) (.keep [0, 2])) (.seq (.seq (.seq (.reg ([⟨some 5, .move (.tmp 0), none⟩, ⟨some 6, .call { callee := .builtin .len, args := #[(.tmp 5)], argTypes := #[22] }, none⟩, ⟨some 7, .binOp .neq 3 (.tmp 6) (.const (.int .i64 9)) 3, none⟩])) (.keep [0, 2, 7])) (.cond (.tmp 7) (.seq (.seq (.reg ([⟨some 8, .build 34 #[], none⟩, ⟨none, .store 34 (.tmp 2) (.tmp 8), none⟩, ⟨some 3, .assign (.const (.bool false)), none⟩])) (.keep [2, 3])) .ret) .skip)) (.seq (.seq (.draw ([⟨⟨some 9, .move (.tmp 0), none⟩, []⟩, ⟨⟨some 10, .indexAddr 22 (.tmp 9) (.const (.int .i64 0)), none⟩, []⟩, ⟨⟨some 11, .load 5 (.tmp 10), none⟩, []⟩, ⟨⟨some 12, .convert 5 3 (.tmp 11), none⟩, []⟩, ⟨⟨some 13, .move (.tmp 0), none⟩, [0, 1, 2, 3]⟩, ⟨⟨some 14, .slice 22 (.tmp 13) (some (.const (.int .i64 1))) none none, none⟩, [0, 1, 2, 3]⟩, ⟨⟨some 15, .call { callee := .value (.func 109), args := #[(.tmp 14)], argTypes := #[22] }, none⟩, [0, 1, 2, 3]⟩, ⟨⟨some 16, .build 34 #[(0, (.tmp 12)), (1, (.tmp 15))], none⟩, []⟩, ⟨⟨some 4, .alloc 34, none⟩, [0, 1, 2, 3, 4, 5, 6, 7]⟩, ⟨⟨none, .store 34 (.tmp 4) (.tmp 16), none⟩, []⟩])) (.keep [2, 4])) (.seq (.seq (.draw ([⟨⟨some 17, .load 34 (.tmp 4), none⟩, []⟩, ⟨⟨some 18, .load 34 (.tmp 4), none⟩, [0]⟩, ⟨⟨some 19, .call { callee := .value (.func 24), args := #[(.tmp 18)], argTypes := #[34] }, none⟩, [0]⟩, ⟨⟨none, .store 34 (.tmp 2) (.tmp 17), none⟩, []⟩, ⟨⟨some 3, .assign (.tmp 19), none⟩, []⟩])) (.keep [2, 3])) .ret))))
attribute [go_sem ↓] c_ref06_moved
def h_ref06_moved : List Hint := [⟨[], [0, 2], []⟩, ⟨[], [0, 2, 7], []⟩, ⟨[], [2, 3], []⟩, ⟨[], [2, 4], []⟩, ⟨[], [2, 3], []⟩]
theorem b_ref06_moved : Body Tryz.prog 110 [] h_ref06_moved c_ref06_moved 20 [.cell 2 34, .tmp 3] := body_of Tryz.func110 (by kernel_rfl) (by kernel_rfl) (by kernel_rfl) (by kernel_rfl)
set_option maxHeartbeats 2000000
def iT (xs : List Int) : List (List T) := xs.map fun x => [.i .i64 x]
def clT (cs : List Int) : List T := cs.map fun x => .i .i64 x
theorem iT_length (xs : List Int) : (iT xs).length = xs.length := by simp [iT]
theorem clT_length (xs : List Int) : (clT xs).length = xs.length := by simp [clT]
theorem iT_get {xs : List Int} {k : Nat} (h : k < xs.length) : (iT xs)[k]? = some [.i .i64 xs[k]] := by simp [iT, h]
attribute [go_sem] iT_length clT_length
def minL : Int → List Int → Int
  | m, [] => m
  | m, x :: xs => minL (if x < m then x else m) xs
def maxL : Int → List Int → Int
  | m, [] => m
  | m, x :: xs => maxL (if m < x then x else m) xs
theorem minL_step (x : Int) (xs : List Int) {k : Nat} (h : k < xs.length) : minL x (xs.take (k + 1)) = if xs[k] < minL x (xs.take k) then xs[k] else minL x (xs.take k) := by
  induction xs generalizing x k with
  | nil => simp at h
  | cons y ys ih =>
    cases k with
    | zero => rfl
    | succ k =>
      simp only [List.take_succ_cons, minL, List.getElem_cons_succ]
      exact ih _ (by simpa using h)
theorem maxL_step (x : Int) (xs : List Int) {k : Nat} (h : k < xs.length) : maxL x (xs.take (k + 1)) = if maxL x (xs.take k) < xs[k] then xs[k] else maxL x (xs.take k) := by
  induction xs generalizing x k with
  | nil => simp at h
  | cons y ys ih =>
    cases k with
    | zero => rfl
    | succ k =>
      simp only [List.take_succ_cons, maxL, List.getElem_cons_succ]
      exact ih _ (by simpa using h)
theorem minL_ge (b : Int) : ∀ (x : Int) (xs : List Int), b ≤ minL x xs ↔ b ≤ x ∧ ∀ y ∈ xs, b ≤ y
  | x, [] => by simp [minL]
  | x, y :: ys => by
    simp only [minL, minL_ge b, List.mem_cons, forall_eq_or_imp]
    split <;> constructor <;> intro h <;> (first | exact ⟨by omega, by omega, h.2⟩ | exact ⟨by omega, h.2.2⟩)
theorem maxL_le (b : Int) : ∀ (x : Int) (xs : List Int), maxL x xs ≤ b ↔ x ≤ b ∧ ∀ y ∈ xs, y ≤ b
  | x, [] => by simp [maxL]
  | x, y :: ys => by
    simp only [maxL, maxL_le b, List.mem_cons, forall_eq_or_imp]
    split <;> constructor <;> intro h <;> (first | exact ⟨by omega, by omega, h.2⟩ | exact ⟨by omega, h.2.2⟩)
theorem s_slices_Min (x : Int) (xs : List Int) (hn : xs.length ≤ 1000) : Spec Tryz.prog 84 [.sl (iT (x :: xs))] [] (.t (.i .i64 (minL x xs)) true) := by
  refine spec_k (hold mixed) b_slices_Min [(.i .i64 (minL x xs), true)] ?_
  have e0 : (((xs.length + 1 : Nat) : Int) < 1) = False := eq_false (by omega)
  have e1 : (0 < xs.length + 1) = True := eq_true (by omega)
  have g0 : (iT (x :: xs))[0]? = some [.i .i64 x] := rfl
  simp -implicitDefEqProofs only [go_sem, seval, sk, List.length_cons, e0, g0, e1]
  refine loop_l (α := Nat) (fun j => ⟨tmL [(0, .t (.sl (iT (x :: xs))) false), (3, .t (.i .i64 (minL x (xs.take j))) (decide (0 < j))), (4, .t (.i .i64 (j + 1 : Nat)) true)], []⟩) (fun j => xs.length - j) (fun j => j ≤ xs.length) 0 (by simp -implicitDefEqProofs only [go_sem, seval] <;> rfl) (Nat.zero_le _) ?_
  intro j hj R hR
  simp -implicitDefEqProofs only [go_sem, seval, sk, List.length_cons]
  refine wcond_mk (fun hh => ?_) (fun hh => ?_)
  · have hj' : j < xs.length := by have := of_decide_eq_true hh; omega
    have e2 : (((j + 1 : Nat) : Int) < ((xs.length + 1 : Nat) : Int)) = True := eq_true (by omega)
    have e3 : (j + 1 < xs.length + 1) = True := eq_true (by omega)
    have g1 : (iT (x :: xs))[j + 1]? = some [.i .i64 xs[j]] := iT_get (xs := x :: xs) (by simp; omega)
    have e4 : IntKind.i64.wrap (((j + 1 : Nat) : Int) + 1) = ((j + 1 + 1 : Nat) : Int) := by rw [wrap_i64_id (by omega) (by omega)]; omega
    simp -implicitDefEqProofs only [go_sem, seval, sk, List.length_cons, e2, e3, g1, e4]
    refine hR (j + 1) _ ?_ (by omega) (by omega)
    rw [minL_step x xs hj', show decide (0 < j + 1) = true by simp]
    rfl
  · have hj' : j = xs.length := by have := of_decide_eq_false hh; omega
    subst hj'
    simp -implicitDefEqProofs only [go_sem, seval, sk, List.take_length]
theorem s_slices_Max (x : Int) (xs : List Int) (hn : xs.length ≤ 1000) : Spec Tryz.prog 85 [.sl (iT (x :: xs))] [] (.t (.i .i64 (maxL x xs)) true) := by
  refine spec_k (hold mixed) b_slices_Max [(.i .i64 (maxL x xs), true)] ?_
  have e0 : (((xs.length + 1 : Nat) : Int) < 1) = False := eq_false (by omega)
  have e1 : (0 < xs.length + 1) = True := eq_true (by omega)
  have g0 : (iT (x :: xs))[0]? = some [.i .i64 x] := rfl
  simp -implicitDefEqProofs only [go_sem, seval, sk, List.length_cons, e0, g0, e1]
  refine loop_l (α := Nat) (fun j => ⟨tmL [(0, .t (.sl (iT (x :: xs))) false), (3, .t (.i .i64 (maxL x (xs.take j))) (decide (0 < j))), (4, .t (.i .i64 (j + 1 : Nat)) true)], []⟩) (fun j => xs.length - j) (fun j => j ≤ xs.length) 0 (by simp -implicitDefEqProofs only [go_sem, seval] <;> rfl) (Nat.zero_le _) ?_
  intro j hj R hR
  simp -implicitDefEqProofs only [go_sem, seval, sk, List.length_cons]
  refine wcond_mk (fun hh => ?_) (fun hh => ?_)
  · have hj' : j < xs.length := by have := of_decide_eq_true hh; omega
    have e2 : (((j + 1 : Nat) : Int) < ((xs.length + 1 : Nat) : Int)) = True := eq_true (by omega)
    have e3 : (j + 1 < xs.length + 1) = True := eq_true (by omega)
    have g1 : (iT (x :: xs))[j + 1]? = some [.i .i64 xs[j]] := iT_get (xs := x :: xs) (by simp; omega)
    have e4 : IntKind.i64.wrap (((j + 1 : Nat) : Int) + 1) = ((j + 1 + 1 : Nat) : Int) := by rw [wrap_i64_id (by omega) (by omega)]; omega
    simp -implicitDefEqProofs only [go_sem, seval, sk, List.length_cons, e2, e3, g1, e4]
    refine hR (j + 1) _ ?_ (by omega) (by omega)
    rw [maxL_step x xs hj', show decide (0 < j + 1) = true by simp]
    rfl
  · have hj' : j = xs.length := by have := of_decide_eq_false hh; omega
    subst hj'
    simp -implicitDefEqProofs only [go_sem, seval, sk, List.take_length]
def stOK (cs : List Int) : Bool := cs.all fun c => decide (-1000000000 ≤ c) && decide (c ≤ 1000000000)
theorem stOK_at {cs : List Int} (h : stOK cs = true) {k : Nat} (hk : k < cs.length) : -1000000000 ≤ cs[k] ∧ cs[k] ≤ 1000000000 := by
  have := List.all_eq_true.1 h _ (List.getElem_mem hk)
  simpa using this
def clF (l : Bool) (cs : List Int) : List AV := cs.map fun x => .t (.i .i64 x) l
theorem clF_length (l : Bool) (xs : List Int) : (clF l xs).length = xs.length := by simp [clF]
theorem clF_get (l : Bool) {xs : List Int} {k : Nat} (h : k < xs.length) : (clF l xs)[k]? = some (.t (.i .i64 xs[k]) l) := by simp [clF, h]
theorem clF_map (l : Bool) (xs : List Int) : List.map (fun x => AV.t x l) (clT xs) = clF l xs := by simp [clF, clT]
attribute [go_sem] clF_length
theorem clF_to (l : Bool) (m : Nat) (h : H) (ws : List Int) : List.map (toT1 m h) (clF l ws) = clF l ws := by
  unfold clF
  rw [List.map_map]
  refine List.map_congr_left fun x _ => ?_
  rfl
theorem clF_all (l : Bool) (m : Nat) (ws : List Int) : (clF l ws).all (below m) = true := by
  rw [List.all_eq_true]
  intro x hx
  simp only [clF, List.mem_map] at hx
  obtain ⟨b, _, rfl⟩ := hx
  rfl
theorem clF_one (l : Bool) (ws : List Int) : ∀ v ∈ clF l ws, v.one := by
  intro v hv
  simp only [clF, List.mem_map] at hv
  obtain ⟨b, _, rfl⟩ := hv
  simp [AV.one, T.one]
theorem argCs_clF (l : Bool) (h : H) : ∀ ws : List Int, argCs h (clF l ws) (clT ws) = True
  | [] => by show argCs h [] [] = True; rw [argCs_nil]
  | b :: ws => by
    show argCs h (.t (.i .i64 b) l :: clF l ws) (.i .i64 b :: clT ws) = True
    rw [argCs_cons, argCs_clF l h ws, arg1_t]
    simp
attribute [go_sem] clF_to clF_all argCs_clF
theorem clF_take {l : Bool} {ws : List Int} (h : ws.length = 8) : List.take 8 (clF l ws) = clF l ws := List.take_of_length_le (by rw [clF_length]; omega)
theorem clF_drop {l : Bool} {ws : List Int} (h : ws.length = 8) : List.drop 8 (clF l ws) = [] := List.drop_of_length_le (by rw [clF_length]; omega)
theorem clT_take {ws : List Int} (h : ws.length = 8) : List.take 8 (clT ws) = clT ws := List.take_of_length_le (by rw [clT_length]; omega)
theorem plains_clF (l : Bool) {ws : List Int} (h : ws.length = 8) : plains (clF l ws) = some (clT ws, l) := by
  have key : ∀ ws : List Int, plains (clF l ws) = some (clT ws, l || ws.isEmpty) := by
    intro ws
    induction ws with
    | nil => cases l <;> rfl
    | cons b ws ih =>
      show plains (.t (.i .i64 b) l :: clF l ws) = _
      simp only [plains, AV.plain, ih]
      cases l <;> simp [clT]
  rw [key]
  cases ws with
  | nil => cases h
  | cons b ws => cases l <;> rfl
theorem embs_clF (l : Bool) (h : H) (ws : List Int) : embs h (clF l ws) = some (clT ws, true, []) := by
  induction ws with
  | nil => rfl
  | cons b ws ih =>
    show embs h (.t (.i .i64 b) l :: clF l ws) = _
    simp only [embs, emb, ih]
    cases l <;> rfl
theorem chunk_clT : ∀ ws : List Int, chunk 1 ws.length (clT ws) = iT ws
  | [] => rfl
  | b :: ws => by
    show [T.i .i64 b] :: chunk 1 ws.length (clT ws) = _
    rw [chunk_clT ws]
    rfl
theorem chunk8 {ws : List Int} (h : ws.length = 8) : chunk 1 8 (clT ws) = iT ws := by
  have := chunk_clT ws
  rwa [h] at this
attribute [go_sem ↓] chunk8
attribute [go_sem] embs_clF
theorem iT_len1 (ws : List Int) : ∀ e ∈ iT ws, e.length = 1 := fun e he => by
  simp only [iT, List.mem_map] at he
  obtain ⟨x, _, rfl⟩ := he
  rfl
theorem room8 : (8 ≤ room) = True := eq_true (by unfold room; omega)
theorem s_journal_fine (cs : List Int) (h8 : cs.length = 8) : Spec Tryz.prog 40 [.agg (clT cs)] [] (.t (.b (stOK cs)) true) := by
  refine spec_k (hold mixed) b_journal_fine [(.b (stOK cs), true)] ?_
  have hp := plains_clF false h8
  have ht := clF_take (l := false) h8
  have hc := chunk8 h8
  obtain ⟨x, xs, hx⟩ : ∃ x xs, cs = x :: xs := by
    cases cs with
    | nil => cases h8
    | cons x xs => exact ⟨x, xs, rfl⟩
  have hxl : xs.length ≤ 1000 := by rw [hx] at h8; simp at h8; omega
  have hMin := s_slices_Min x xs hxl
  have hMax := s_slices_Max x xs hxl
  rw [← hx] at hMin hMax
  simp -implicitDefEqProofs only [go_sem, seval, sk, clF_map]
  refine ⟨by omega, ?_⟩
  refine call_k hMin ?_ (by simp -implicitDefEqProofs only [go_sem, seval, sk, ht, hp, h8, hc, room8]; exact iT_len1 _)
  have key : stOK cs = (decide (-1000000000 ≤ minL x xs) && decide (maxL x xs ≤ 1000000000)) := by
    rw [Bool.eq_iff_iff]
    simp only [stOK, hx, List.all_eq_true, Bool.and_eq_true, decide_eq_true_eq, minL_ge, maxL_le, List.mem_cons, forall_eq_or_imp]
    constructor
    · intro h; exact ⟨⟨h.1.1, fun y hy => (h.2 y hy).1⟩, h.1.2, fun y hy => (h.2 y hy).2⟩
    · intro h; exact ⟨⟨h.1.1, h.2.1⟩, fun y hy => ⟨h.1.2 y hy, h.2.2 y hy⟩⟩
  by_cases c1 : -1000000000 ≤ minL x xs
  · simp -implicitDefEqProofs only [go_sem, seval, sk, eq_true c1, h8]
    refine call_k hMax ?_ (by simp -implicitDefEqProofs only [go_sem, seval, sk, ht, hp, h8, hc, room8]; exact iT_len1 _)
    simp -implicitDefEqProofs only [go_sem, seval, sk, key, eq_true c1]
  · simp -implicitDefEqProofs only [go_sem, seval, sk, eq_false c1, key]
theorem s_ref06_State (cs : List Int) (h8 : cs.length = 8) : Spec Tryz.prog 42 [.agg (clT cs)] [] (.t (.b (stOK cs)) true) := by
  refine spec_k (hold mixed) b_ref06_State [(.b (stOK cs), true)] ?_
  simp -implicitDefEqProofs only [go_sem, seval, sk, clF_map]
  refine loop_l (α := Nat) (fun j => ⟨tmL [(1, .ptr 0 0), (3, .t (.i .i64 j) true)], [.var (clF false cs)]⟩) (fun j => 8 - j) (fun j => j ≤ 8 ∧ ∀ q (hq : q < cs.length), q < j → -1000000000 ≤ cs[q] ∧ cs[q] ≤ 1000000000) 0 (by simp -implicitDefEqProofs only [go_sem, seval, clF_to, clF_all] <;> rfl) ⟨by omega, fun q _ h => by omega⟩ ?_
  intro j hj R hR
  obtain ⟨hj, hq⟩ := hj
  simp -implicitDefEqProofs only [go_sem, seval, sk]
  refine wcond_mk (fun hh => ?_) (fun hh => ?_)
  · have hj' : j < 8 := by have := of_decide_eq_true hh; omega
    have hjl : j < cs.length := by omega
    have e2 : ((j : Int) < 8) = True := eq_true (by omega)
    have e4 : IntKind.i64.wrap ((j : Int) + 1) = ((j + 1 : Nat) : Int) := by rw [wrap_i64_id (by omega) (by omega)]; omega
    have bad : ¬ (-1000000000 ≤ cs[j] ∧ cs[j] ≤ 1000000000) → stOK cs = false := fun h => by
      cases hs : stOK cs with
      | false => rfl
      | true => exact absurd (stOK_at hs hjl) h
    by_cases c1 : cs[j] < -1000000000
    · rw [bad (by omega)]
      simp -implicitDefEqProofs only [go_sem, seval, sk, e2, clF_get _ hjl, Nat.mul_one, Option.isSome_some, eq_true c1]
    · by_cases c2 : 1000000000 < cs[j]
      · rw [bad (by omega)]
        simp -implicitDefEqProofs only [go_sem, seval, sk, e2, clF_get _ hjl, Nat.mul_one, Option.isSome_some, eq_false c1, eq_true c2]
      · simp -implicitDefEqProofs only [go_sem, seval, sk, e2, clF_get _ hjl, Nat.mul_one, Option.isSome_some, eq_false c1, eq_false c2, e4]
        refine hR (j + 1) _ (by simp -implicitDefEqProofs only [go_sem, seval, clF_to, clF_all]) ⟨by omega, fun q h1 h2 => ?_⟩ (by omega)
        rcases Nat.lt_or_ge q j with h | h
        · exact hq q h1 h
        · obtain rfl : q = j := by omega
          exact ⟨by omega, by omega⟩
  · have hj' : j = 8 := by have := of_decide_eq_false hh; omega
    have : stOK cs = true := List.all_eq_true.2 fun c hc => by
      obtain ⟨q, h1, rfl⟩ := List.mem_iff_getElem.1 hc
      have := hq q h1 (by omega)
      simp [this]
    rw [this]
    simp -implicitDefEqProofs only [go_sem, seval, sk]
def mT (m : Int × Int) : List T := [.i .i64 m.1, .i .i64 m.2]
def mOK (m : Int × Int) : Bool := decide (0 ≤ m.1) && (decide (m.1 < 8) && (decide (-1000000 ≤ m.2) && decide (m.2 ≤ 1000000)))
theorem mOK_iff (m : Int × Int) : mOK m = true ↔ 0 ≤ m.1 ∧ m.1 < 8 ∧ -1000000 ≤ m.2 ∧ m.2 ≤ 1000000 := by simp [mOK]
attribute [go_sem] mT
theorem s_journal_valid (m : Int × Int) : Spec Tryz.prog 41 [.agg (mT m)] [] (.t (.b (mOK m)) true) := by
  refine spec_k (hold mixed) b_journal_valid [(.b (mOK m), true)] ?_
  by_cases c1 : 0 ≤ m.1
  · by_cases c2 : m.1 < 8
    · by_cases c3 : -1000000 ≤ m.2
      · simp -implicitDefEqProofs only [go_sem, seval, sk, mOK, eq_true c1, eq_true c2, eq_true c3]
      · simp -implicitDefEqProofs only [go_sem, seval, sk, mOK, eq_true c1, eq_true c2, eq_false c3]
    · simp -implicitDefEqProofs only [go_sem, seval, sk, mOK, eq_true c1, eq_false c2]
  · simp -implicitDefEqProofs only [go_sem, seval, sk, mOK, eq_false c1]
theorem s_ref06_Valid (m : Int × Int) : Spec Tryz.prog 24 [.agg (mT m)] [] (.t (.b (mOK m)) true) := by
  refine spec_k (hold mixed) b_ref06_Valid [(.b (mOK m), true)] ?_
  by_cases c1 : 0 ≤ m.1
  · by_cases c2 : m.1 < 8
    · by_cases c3 : -1000000 ≤ m.2
      · simp -implicitDefEqProofs only [go_sem, seval, sk, mOK, eq_true c1, eq_true c2, eq_true c3]
      · simp -implicitDefEqProofs only [go_sem, seval, sk, mOK, eq_true c1, eq_true c2, eq_false c3]
    · simp -implicitDefEqProofs only [go_sem, seval, sk, mOK, eq_true c1, eq_false c2]
  · simp -implicitDefEqProofs only [go_sem, seval, sk, mOK, eq_false c1]
def mvT (l : List (Int × Int)) : List (List T) := l.map mT
theorem mvT_length (l : List (Int × Int)) : (mvT l).length = l.length := by simp [mvT]
theorem mvT_get {l : List (Int × Int)} {k : Nat} (h : k < l.length) : (mvT l)[k]? = some (mT l[k]) := by simp [mvT, h]
attribute [go_sem] mvT_length
def z8 : List Int := [0, 0, 0, 0, 0, 0, 0, 0]
def stepC (cs : List Int) (m : Int × Int) : List Int := cs.set m.1.toNat ((cs[m.1.toNat]?).getD 0 + m.2)
theorem stepC_len (cs : List Int) (m : Int × Int) : (stepC cs m).length = cs.length := by simp [stepC]
def appK : List Int → List (Int × Int) → List Int × Int
  | c, [] => (c, 0)
  | c, m :: l => if mOK m = true then (if stOK (stepC c m) = true then appK (stepC c m) l else (z8, 16)) else (z8, 2)
def applyV (c : List Int) (l : List (Int × Int)) : List Int × Int := if stOK c = true then appK c l else (z8, 8)
theorem appK_len : ∀ (l : List (Int × Int)) (c : List Int), c.length = 8 → (appK c l).1.length = 8
  | [], c, h => h
  | m :: l, c, h => by
    unfold appK
    split
    · split
      · exact appK_len l _ (by rw [stepC_len, h])
      · rfl
    · rfl
theorem applyV_len {c : List Int} (l : List (Int × Int)) (h : c.length = 8) : (applyV c l).1.length = 8 := by
  unfold applyV
  split
  · exact appK_len l c h
  · rfl
theorem appK_step {l : List (Int × Int)} {k : Nat} (h : k < l.length) (c : List Int) (h1 : mOK l[k] = true) (h2 : stOK (stepC c l[k]) = true) : appK c (l.drop k) = appK (stepC c l[k]) (l.drop (k + 1)) := by
  rw [List.drop_eq_getElem_cons h, appK, if_pos h1, if_pos h2]
theorem appK_arg {l : List (Int × Int)} {k : Nat} (h : k < l.length) (c : List Int) (h1 : ¬ mOK l[k] = true) : appK c (l.drop k) = (z8, 2) := by
  rw [List.drop_eq_getElem_cons h, appK, if_neg h1]
theorem appK_range {l : List (Int × Int)} {k : Nat} (h : k < l.length) (c : List Int) (h1 : mOK l[k] = true) (h2 : ¬ stOK (stepC c l[k]) = true) : appK c (l.drop k) = (z8, 16) := by
  rw [List.drop_eq_getElem_cons h, appK, if_pos h1, if_neg h2]
theorem appK_end {l : List (Int × Int)} {k : Nat} (h : ¬ k < l.length) (c : List Int) : appK c (l.drop k) = (c, 0) := by
  rw [List.drop_of_length_le (by omega)]
  rfl
theorem z8_T : clT z8 = [.i .i64 0, .i .i64 0, .i .i64 0, .i .i64 0, .i .i64 0, .i .i64 0, .i .i64 0, .i .i64 0] := rfl
def clM (ps : List (Int × Bool)) : List AV := ps.map fun p => .t (.i .i64 p.1) p.2
def nums (ps : List (Int × Bool)) : List Int := ps.map Prod.fst
def mk1 (l : Bool) (cs : List Int) : List (Int × Bool) := cs.map fun c => (c, l)
theorem clF_M (l : Bool) (cs : List Int) : clF l cs = clM (mk1 l cs) := by simp [clF, clM, mk1]
theorem nums_mk (l : Bool) (cs : List Int) : nums (mk1 l cs) = cs := by
  unfold nums mk1
  rw [List.map_map]
  exact List.map_id' cs
theorem nums_len (ps : List (Int × Bool)) : (nums ps).length = ps.length := by simp [nums]
theorem mk1_len (l : Bool) (cs : List Int) : (mk1 l cs).length = cs.length := by simp [mk1]
theorem nums_set (ps : List (Int × Bool)) (k : Nat) (v : Int) (b : Bool) : nums (ps.set k (v, b)) = (nums ps).set k v := by simp [nums, List.map_set]
theorem clM_length (ps : List (Int × Bool)) : (clM ps).length = ps.length := by simp [clM]
theorem clM_get {ps : List (Int × Bool)} {k : Nat} (h : k < ps.length) : (clM ps)[k]? = some (.t (.i .i64 ps[k].1) ps[k].2) := by simp [clM, h]
theorem clM_set (ps : List (Int × Bool)) (k : Nat) (v : Int) (b : Bool) : (clM ps).set k (.t (.i .i64 v) b) = clM (ps.set k (v, b)) := by simp [clM, List.map_set]
theorem clM_to (m : Nat) (h : H) (ws : List (Int × Bool)) : List.map (toT1 m h) (clM ws) = clM ws := by
  unfold clM
  rw [List.map_map]
  refine List.map_congr_left fun x _ => ?_
  rfl
theorem clM_all (m : Nat) (ws : List (Int × Bool)) : (clM ws).all (below m) = true := by
  rw [List.all_eq_true]
  intro x hx
  simp only [clM, List.mem_map] at hx
  obtain ⟨b, _, rfl⟩ := hx
  rfl
theorem clM_one (ws : List (Int × Bool)) : ∀ v ∈ clM ws, v.one := by
  intro v hv
  simp only [clM, List.mem_map] at hv
  obtain ⟨b, _, rfl⟩ := hv
  simp [AV.one, T.one]
theorem argCs_clM (h : H) : ∀ ws : List (Int × Bool), argCs h (clM ws) (clT (nums ws)) = True
  | [] => by show argCs h [] [] = True; rw [argCs_nil]
  | b :: ws => by
    show argCs h (.t (.i .i64 b.1) b.2 :: clM ws) (.i .i64 b.1 :: clT (nums ws)) = True
    rw [argCs_cons, argCs_clM h ws, arg1_t]
    simp
theorem embs_clM (h : H) (ws : List (Int × Bool)) : embs h (clM ws) = some (clT (nums ws), true, []) := by
  induction ws with
  | nil => rfl
  | cons b ws ih =>
    obtain ⟨b, l⟩ := b
    show embs h (.t (.i .i64 b) l :: clM ws) = _
    simp only [embs, emb, ih]
    cases l <;> rfl
theorem clM_take {ws : List (Int × Bool)} (h : ws.length = 8) : List.take 8 (clM ws) = clM ws := List.take_of_length_le (by rw [clM_length]; omega)
theorem clM_drop {ws : List (Int × Bool)} (h : ws.length = 8) : List.drop 8 (clM ws) = [] := List.drop_of_length_le (by rw [clM_length]; omega)
attribute [go_sem] clM_length clM_to clM_all argCs_clM embs_clM clM_set
theorem clM_cut {ps : List (Int × Bool)} {k : Nat} (h : k < ps.length) (v : Int) (b : Bool) : List.take k (clM ps) ++ [.t (.i .i64 v) b] ++ List.drop (k + 1) (clM ps) = clM (ps.set k (v, b)) := by
  rw [← clM_set, List.set_eq_take_append_cons_drop, if_pos (by rw [clM_length]; exact h)]
  simp
theorem z8_len : (mk1 true z8).length = 8 := rfl
attribute [go_sem] z8_len
def apF (l : List (Int × Int)) (p : Nat × List (Int × Bool)) : S := ⟨tmL [(2, .ptr 0 0), (4, .ptr 1 0), (12, .t (.sl (mvT l)) false), (13, .t (.i .i64 l.length) true), (14, .t (.i .i64 p.1) true)], [.var (clM p.2), .var (clM (mk1 true z8))]⟩
def rapF (l : List (Int × Int)) (p : Nat × List (Int × Bool)) : S := ⟨tmL [(1, .t (.sl (mvT l)) false), (2, .ptr 0 0), (4, .ptr 1 0), (6, .t (.i .i64 p.1) true)], [.var (clM p.2), .var (clM (mk1 true z8))]⟩
theorem s_journal_Apply (cs : List Int) (h8 : cs.length = 8) (l : List (Int × Int)) (hl : l.length ≤ 140737488355328) : Spec Tryz.prog 11 [.agg (clT cs), .sl (mvT l)] [] (.tup [.t (.agg (clT (applyV cs l).1)) true, .t (.i .i64 (applyV cs l).2) true]) := by
  refine spec_k (hold mixed) b_journal_Apply [(.agg (clT (applyV cs l).1), true), (.i .i64 (applyV cs l).2, true)] ?_
  simp -implicitDefEqProofs only [go_sem, seval, sk, clF_map]
  refine ⟨by omega, ?_⟩
  simp -implicitDefEqProofs only [go_sem, seval, sk, clF_take h8]
  first | refine call_k (s_journal_fine cs h8) ?_ | refine call_d (s_journal_fine cs h8) ?_
  cases c1 : stOK cs with
  | false =>
    rw [show applyV cs l = (z8, 8) from if_neg (by rw [c1]; decide), z8_T]
    simp -implicitDefEqProofs only [go_sem, seval, sk]
  | true =>
    rw [show applyV cs l = appK cs l from if_pos c1]
    simp -implicitDefEqProofs only [go_sem, seval, sk]
    refine loop_l (α := Nat × List (Int × Bool)) (apF l) (fun p => l.length - p.1) (fun p => p.1 ≤ l.length ∧ p.2.length = 8 ∧ stOK (nums p.2) = true ∧ appK cs l = appK (nums p.2) (l.drop p.1)) (0, mk1 false cs) (by simp -implicitDefEqProofs only [go_sem, seval, apF, clF_M]; rfl) ⟨Nat.zero_le _, by rw [mk1_len, h8], by rw [nums_mk, c1], by rw [nums_mk]; rfl⟩ ?_
    intro p hp R hR
    obtain ⟨j, ps⟩ := p
    obtain ⟨hj, hps, hst, hap⟩ := hp
    simp only at hj hps hst hap
    rw [hap]
    simp -implicitDefEqProofs only [go_sem, seval, sk, apF]
    refine wcond_mk (fun hh => ?_) (fun hh => ?_)
    · have hj' : j < l.length := by have := of_decide_eq_true hh; omega
      have hjj : (j : Int) < (l.length : Int) := by omega
      simp -implicitDefEqProofs only [go_sem, seval, sk, mvT_get hj', eq_true hjj]
      first | refine call_k (s_journal_valid l[j]) ?_ | refine call_d (s_journal_valid l[j]) ?_
      cases c2 : mOK l[j] with
      | false =>
        rw [appK_arg hj' _ (by rw [c2]; decide), z8_T]
        simp -implicitDefEqProofs only [go_sem, seval, sk]
      | true =>
        obtain ⟨m0, m1, m2, m3⟩ := (mOK_iff _).1 c2
        obtain ⟨k, hk⟩ : ∃ k : Nat, l[j].1 = k := ⟨l[j].1.toNat, by omega⟩
        have hk8 : k < ps.length := by omega
        have hk8' : k < (nums ps).length := by rw [nums_len]; exact hk8
        obtain ⟨b0, b1⟩ := stOK_at hst hk8'
        have hnk : (nums ps)[k] = ps[k].1 := by simp [nums]
        have hw : IntKind.i64.wrap (ps[k].1 + l[j].2) = ps[k].1 + l[j].2 := by
          rw [hnk] at b0 b1
          exact wrap_i64_id (by omega) (by omega)
        have e1 : ((0 : Int) ≤ (k : Int)) = True := eq_true (by omega)
        have e2 : ((k : Int) < 8) = True := eq_true (by omega)
        have hsc : stepC (nums ps) l[j] = nums (ps.set k (ps[k].1 + l[j].2, true)) := by
          rw [nums_set]
          unfold stepC
          rw [hk, Int.toNat_natCast, List.getElem?_eq_getElem hk8', Option.getD_some, hnk]
        have hps2 : (ps.set k (ps[k].1 + l[j].2, true)).length = 8 := by rw [List.length_set, hps]
        have e4 : IntKind.i64.wrap ((j : Int) + 1) = ((j + 1 : Nat) : Int) := by rw [wrap_i64_id (by omega) (by omega)]; omega
        have hF := s_journal_fine (nums (ps.set k (ps[k].1 + l[j].2, true))) (by rw [nums_len, hps2])
        simp -implicitDefEqProofs only [go_sem, seval, sk, hk, e1, e2, clM_get hk8, Nat.mul_one, hw, clM_cut hk8, hps2, clM_take hps2]
        refine ⟨by omega, ?_⟩
        first | refine call_k hF ?_ | refine call_d hF ?_
        cases c3 : stOK (nums (ps.set k (ps[k].1 + l[j].2, true))) with
        | false =>
          rw [appK_range hj' _ c2 (by rw [hsc, c3]; decide), z8_T]
          simp -implicitDefEqProofs only [go_sem, seval, sk]
        | true =>
          simp -implicitDefEqProofs only [go_sem, seval, sk, e4]
          refine hR (j + 1, ps.set k (ps[k].1 + l[j].2, true)) _ ?_ ⟨by omega, hps2, c3, by rw [hap, appK_step hj' _ c2 (by rw [hsc, c3]), hsc]⟩ (by simp only; omega)
          simp -implicitDefEqProofs only [go_sem, seval, apF]
    · have hj' : ¬ j < l.length := by have := of_decide_eq_false hh; omega
      rw [appK_end hj']
      simp -implicitDefEqProofs only [go_sem, seval, sk, hps, clM_take hps, clM_drop (ws := mk1 true z8) z8_len, List.append_nil]
      exact clM_one _
theorem s_ref06_Apply (cs : List Int) (h8 : cs.length = 8) (l : List (Int × Int)) (hl : l.length ≤ 140737488355328) : Spec Tryz.prog 12 [.agg (clT cs), .sl (mvT l)] [] (.tup [.t (.agg (clT (applyV cs l).1)) true, .t (.i .i64 (applyV cs l).2) true]) := by
  refine spec_k (hold mixed) b_ref06_Apply [(.agg (clT (applyV cs l).1), true), (.i .i64 (applyV cs l).2, true)] ?_
  simp -implicitDefEqProofs only [go_sem, seval, sk, clF_map]
  refine ⟨by omega, ?_⟩
  simp -implicitDefEqProofs only [go_sem, seval, sk, clF_take h8]
  first | refine call_k (s_ref06_State cs h8) ?_ | refine call_d (s_ref06_State cs h8) ?_
  cases c1 : stOK cs with
  | false =>
    rw [show applyV cs l = (z8, 8) from if_neg (by rw [c1]; decide), z8_T]
    simp -implicitDefEqProofs only [go_sem, seval, sk]
  | true =>
    rw [show applyV cs l = appK cs l from if_pos c1]
    simp -implicitDefEqProofs only [go_sem, seval, sk]
    refine loop_l (α := Nat × List (Int × Bool)) (rapF l) (fun p => l.length - p.1) (fun p => p.1 ≤ l.length ∧ p.2.length = 8 ∧ stOK (nums p.2) = true ∧ appK cs l = appK (nums p.2) (l.drop p.1)) (0, mk1 false cs) (by simp -implicitDefEqProofs only [go_sem, seval, rapF, clF_M]; rfl) ⟨Nat.zero_le _, by rw [mk1_len, h8], by rw [nums_mk, c1], by rw [nums_mk]; rfl⟩ ?_
    intro p hp R hR
    obtain ⟨j, ps⟩ := p
    obtain ⟨hj, hps, hst, hap⟩ := hp
    simp only at hj hps hst hap
    rw [hap]
    simp -implicitDefEqProofs only [go_sem, seval, sk, rapF]
    refine wcond_mk (fun hh => ?_) (fun hh => ?_)
    · have hj' : j < l.length := by have := of_decide_eq_true hh; omega
      have hjj : (j : Int) < (l.length : Int) := by omega
      simp -implicitDefEqProofs only [go_sem, seval, sk, mvT_get hj', eq_true hjj]
      first | refine call_k (s_ref06_Valid l[j]) ?_ | refine call_d (s_ref06_Valid l[j]) ?_
      cases c2 : mOK l[j] with
      | false =>
        rw [appK_arg hj' _ (by rw [c2]; decide), z8_T]
        simp -implicitDefEqProofs only [go_sem, seval, sk]
      | true =>
        obtain ⟨m0, m1, m2, m3⟩ := (mOK_iff _).1 c2
        obtain ⟨k, hk⟩ : ∃ k : Nat, l[j].1 = k := ⟨l[j].1.toNat, by omega⟩
        have hk8 : k < ps.length := by omega
        have hk8' : k < (nums ps).length := by rw [nums_len]; exact hk8
        obtain ⟨b0, b1⟩ := stOK_at hst hk8'
        have hnk : (nums ps)[k] = ps[k].1 := by simp [nums]
        have hw : IntKind.i64.wrap (ps[k].1 + l[j].2) = ps[k].1 + l[j].2 := by
          rw [hnk] at b0 b1
          exact wrap_i64_id (by omega) (by omega)
        have e1 : ((0 : Int) ≤ (k : Int)) = True := eq_true (by omega)
        have e2 : ((k : Int) < 8) = True := eq_true (by omega)
        have hsc : stepC (nums ps) l[j] = nums (ps.set k (ps[k].1 + l[j].2, true)) := by
          rw [nums_set]
          unfold stepC
          rw [hk, Int.toNat_natCast, List.getElem?_eq_getElem hk8', Option.getD_some, hnk]
        have hps2 : (ps.set k (ps[k].1 + l[j].2, true)).length = 8 := by rw [List.length_set, hps]
        have e4 : IntKind.i64.wrap ((j : Int) + 1) = ((j + 1 : Nat) : Int) := by rw [wrap_i64_id (by omega) (by omega)]; omega
        have hF := s_ref06_State (nums (ps.set k (ps[k].1 + l[j].2, true))) (by rw [nums_len, hps2])
        simp -implicitDefEqProofs only [go_sem, seval, sk, mvT_get hj', eq_true hjj, hk, e1, e2, clM_get hk8, Nat.mul_one, hw, clM_cut hk8, hps2, clM_take hps2]
        refine ⟨by omega, ?_⟩
        first | refine call_k hF ?_ | refine call_d hF ?_
        cases c3 : stOK (nums (ps.set k (ps[k].1 + l[j].2, true))) with
        | false =>
          rw [appK_range hj' _ c2 (by rw [hsc, c3]; decide), z8_T]
          simp -implicitDefEqProofs only [go_sem, seval, sk]
        | true =>
          simp -implicitDefEqProofs only [go_sem, seval, sk, e4]
          refine hR (j + 1, ps.set k (ps[k].1 + l[j].2, true)) _ ?_ ⟨by omega, hps2, c3, by rw [hap, appK_step hj' _ c2 (by rw [hsc, c3]), hsc]⟩ (by simp only; omega)
          simp -implicitDefEqProofs only [go_sem, seval, rapF]
    · have hj' : ¬ j < l.length := by have := of_decide_eq_false hh; omega
      rw [appK_end hj']
      simp -implicitDefEqProofs only [go_sem, seval, sk, hps, clM_take hps, clM_drop (ws := mk1 true z8) z8_len, List.append_nil]
      exact clM_one _
def byte64 (n : Int) (i : Nat) : BitVec 8 := BitVec.ofNat 8 ((BitVec.ofInt 64 n).toNat / 2 ^ (8 * i))
def le8 (n : Int) : List (BitVec 8) := (List.range 8).map (byte64 n)
theorem le8_len (n : Int) : (le8 n).length = 8 := by simp [le8]
def les (l : List Int) : List (BitVec 8) := (l.map le8).flatten
theorem les_len (l : List Int) : (les l).length = 8 * l.length := by
  unfold les
  induction l with
  | nil => rfl
  | cons x l ih => simp [le8_len, ih]; omega
theorem les_zero (l : List Int) : les (l.take 0) = [] := rfl
theorem les_nil : les [] = [] := rfl
theorem le8_take {n : Int} {i : Nat} (h : i < 8) : (le8 n).take (i + 1) = (le8 n).take i ++ [byte64 n i] := by
  have h' : i < (le8 n).length := by rw [le8_len]; exact h
  rw [← List.take_append_getElem h']
  simp [le8]
theorem les_take {l : List Int} {j : Nat} (h : j < l.length) : les (l.take (j + 1)) = les (l.take j) ++ le8 l[j] := by
  unfold les
  rw [← List.take_append_getElem h, List.map_append, List.flatten_append]
  simp
theorem wrap_u64_int (n : Int) : IntKind.u64.wrap n = (((BitVec.ofInt 64 n).toNat : Nat) : Int) := by
  rw [BitVec.toNat_ofInt]
  have h : (0 : Int) ≤ n % ((2 ^ 64 : Nat) : Int) := Int.emod_nonneg _ (by decide)
  rw [Int.toNat_of_nonneg h]
  rfl
theorem byte64_eq (n : Int) {i : Nat} (h : i < 8) : IntKind.u8.wrap ((IntKind.u64.wrap n).fdiv (2 ^ min (8 * i) 64)) = (((byte64 n i).toNat : Nat) : Int) := by
  rw [wrap_u64_int, show min (8 * i) 64 = 8 * i by omega]
  unfold byte64
  rw [Int.fdiv_eq_ediv_of_nonneg _ (Int.pow_nonneg (by omega))]
  rw [show ((2 : Int) ^ (8 * i)) = ((2 ^ (8 * i) : Nat) : Int) by simp, ← Int.natCast_ediv, wrap_nat8]
theorem s_journal_put (xs : List (BitVec 8)) (l : List Int) (hx : xs.length ≤ 1000000) (hl : l.length ≤ 1000) : SpecAp Tryz.prog 44 (bT xs) [.sl (iT l)] (bT (les l)) := by
  refine spec_kap (hold mixed) b_journal_put (bT (les l)) (by rw [← bT_append]; exact flat_bT _) (by rw [bT_length, bT_length, les_len]; unfold room; omega) ?_
  simp -implicitDefEqProofs only [go_sem, seval, sk]
  refine loop_l (α := Nat) (fun j => ⟨tmL [(0, .row 0 (8 * j) 0 (xs.length + 8 * j)), (8, .t (.sl (iT l)) false), (9, .t (.i .i64 l.length) true), (10, .t (.i .i64 j) true)], [.row (8 * j) 1 (bT (xs ++ les (l.take j))) true]⟩) (fun j => l.length - j) (fun j => j ≤ l.length) 0 (by simp -implicitDefEqProofs only [go_sem, seval, les_zero, List.take_zero, les_nil, List.append_nil] <;> rfl) (Nat.zero_le _) ?_
  intro j hj R hR
  simp -implicitDefEqProofs only [go_sem, seval, sk]
  refine wcond_mk (fun hh => ?_) (fun hh => ?_)
  · have hj' : j < l.length := by have := of_decide_eq_true hh; omega
    have hjj : (j : Int) < (l.length : Int) := by omega
    simp -implicitDefEqProofs only [go_sem, seval, sk, iT_get hj', eq_true hjj]
    refine loop_l (α := Nat) (fun i => ⟨tmL [(0, .row 0 (8 * j + i) 0 (xs.length + 8 * j + i)), (6, .t (.i .i64 l[j]) false), (8, .t (.sl (iT l)) false), (9, .t (.i .i64 l.length) true), (10, .t (.i .i64 j) true), (14, .t (.i .i64 i) true)], [.row (8 * j + i) 1 (bT (xs ++ les (l.take j) ++ (le8 l[j]).take i)) true]⟩) (fun i => 8 - i) (fun i => i ≤ 8) 0 (by simp -implicitDefEqProofs only [go_sem, seval] <;> rfl) (Nat.zero_le _) ?_
    intro i hi R2 hR2
    simp -implicitDefEqProofs only [go_sem, seval, sk]
    refine wcond_mk (fun hh => ?_) (fun hh => ?_)
    · have hi' : i < 8 := by have := of_decide_eq_true hh; omega
      have e1 : IntKind.i64.wrap (8 * (i : Int)) = ((8 * i : Nat) : Int) := by rw [wrap_i64_id (by omega) (by omega)]; omega
      have e2 : IntKind.i64.wrap ((i : Int) + 1) = ((i + 1 : Nat) : Int) := by rw [wrap_i64_id (by omega) (by omega)]; omega
      simp -implicitDefEqProofs only [go_sem, seval, sk, e1, e2, byte64_eq l[j] hi']
      have hlen : (bT (xs ++ les (List.take j l) ++ List.take i (le8 l[j]))).length = xs.length + 8 * j + i := by
        rw [bT_length, List.length_append, List.length_append, les_len, List.length_take, List.length_take, le8_len]
        omega
      rw [bT_length] at hlen
      refine ⟨⟨okEs_bT [byte64 l[j] i], by omega, by unfold room; omega⟩, hR2 (i + 1) _ ?_ (by omega) (by omega)⟩
      simp -implicitDefEqProofs only [go_sem, seval]
      rw [List.take_of_length_le (show (bT (xs ++ les (List.take j l) ++ List.take i (le8 l[j]))).length ≤ xs.length + 8 * j + i by rw [bT_length]; omega), le8_take hi', ← List.append_assoc, bT_append (_ ++ _ ++ _) [byte64 l[j] i]]
      rfl
    · have hi' : i = 8 := by have := of_decide_eq_false hh; omega
      subst hi'
      have e2 : IntKind.i64.wrap ((j : Int) + 1) = ((j + 1 : Nat) : Int) := by rw [wrap_i64_id (by omega) (by omega)]; omega
      simp -implicitDefEqProofs only [go_sem, seval, sk, e2]
      refine hR (j + 1) _ ?_ (by omega) (by omega)
      simp -implicitDefEqProofs only [go_sem, seval]
      rw [les_take hj', List.take_of_length_le (show (le8 l[j]).length ≤ 8 by rw [le8_len]; exact Nat.le_refl _), ← List.append_assoc]
      rfl
  · have hj' : j = l.length := by have := of_decide_eq_false hh; omega
    subst hj'
    simp -implicitDefEqProofs only [go_sem, seval, sk]
    rw [List.length_append, bT_length, bT_length, les_len, bT_append]
    exact ⟨rfl, rfl⟩
def natL : List (BitVec 8) → Nat
  | [] => 0
  | b :: bs => b.toNat + 256 * natL bs
theorem natL_lt : ∀ bs : List (BitVec 8), natL bs < 2 ^ (8 * bs.length)
  | [] => by simp [natL]
  | b :: bs => by
    have h := natL_lt bs
    have hb := b.isLt
    rw [natL, List.length_cons, show 8 * (bs.length + 1) = 8 * bs.length + 8 by omega, Nat.pow_add]
    omega
theorem natL_app : ∀ (a b : List (BitVec 8)), natL (a ++ b) = natL a + 2 ^ (8 * a.length) * natL b
  | [], b => by simp [natL]
  | x :: a, b => by
    rw [List.cons_append, natL, natL, natL_app a b, List.length_cons, show 8 * (a.length + 1) = 8 * a.length + 8 by omega, Nat.pow_add]
    generalize 2 ^ (8 * a.length) = p
    rw [Nat.mul_add, show p * 2 ^ 8 * natL b = 256 * (p * natL b) by rw [Nat.mul_assoc, Nat.mul_left_comm]]
    omega
def rd8 (b : List (BitVec 8)) : Int := IntKind.i64.wrap (natL (b.take 8) : Int)
theorem u64_id {n : Nat} (h : n < 2 ^ 64) : IntKind.u64.wrap (n : Int) = (n : Int) := by
  rw [wrap_nat64, BitVec.toNat_ofNat, Nat.mod_eq_of_lt h]
theorem of64_id {n : Nat} (h : n < 2 ^ 64) : (BitVec.ofInt 64 (n : Int)).toNat = n := by
  rw [BitVec.ofInt_natCast, BitVec.toNat_ofNat, Nat.mod_eq_of_lt h]
theorem pow_lt64 {x k : Nat} (hx : x < 256) (hk : k < 8) : 2 ^ (8 * k) * x < 2 ^ 64 := by
  have h1 : 2 ^ (8 * k) * x < 2 ^ (8 * k) * 2 ^ 8 := Nat.mul_lt_mul_of_pos_left hx (Nat.two_pow_pos _)
  rw [← Nat.pow_add] at h1
  exact Nat.lt_of_lt_of_le h1 (Nat.pow_le_pow_right (by omega) (by omega))
theorem or_L {a k : Nat} (x : BitVec 8) (ha : a < 2 ^ (8 * k)) (hk : k < 8) :
    ((BitVec.ofInt 64 (a : Int) ||| BitVec.ofInt 64 (IntKind.u64.wrap (IntKind.u64.wrap ((x.toNat : Nat) : Int) * 2 ^ min (8 * k) 64))).toNat : Int) = ((a + 2 ^ (8 * k) * x.toNat : Nat) : Int) := by
  have hx := x.isLt
  have hp := pow_lt64 (x := x.toNat) (k := k) (by omega) hk
  have ha2 : a < 2 ^ 64 := Nat.lt_of_lt_of_le ha (Nat.pow_le_pow_right (by omega) (by omega))
  rw [u64_id (show x.toNat < 2 ^ 64 by omega), show min (8 * k) 64 = 8 * k by omega, show ((x.toNat : Nat) : Int) * 2 ^ (8 * k) = ((2 ^ (8 * k) * x.toNat : Nat) : Int) by rw [Nat.mul_comm (2 ^ (8 * k))]; simp, u64_id hp, BitVec.toNat_or, of64_id ha2, of64_id hp]
  rw [Nat.or_comm, ← Nat.two_pow_add_eq_or_of_lt ha, Nat.add_comm]
theorem natL_take {b : List (BitVec 8)} {k : Nat} (h : k < b.length) : natL (b.take (k + 1)) = natL (b.take k) + 2 ^ (8 * k) * b[k].toNat := by
  rw [← List.take_append_getElem h, natL_app, List.length_take, Nat.min_eq_left (by omega)]
  simp [natL]
theorem s_journal_get (b : List (BitVec 8)) (n : Nat) (hn : n ≤ 1000) (hb : 8 * n + 8 ≤ b.length) : Spec Tryz.prog 106 [.sl (bT b), .i .i64 n] [] (.t (.i .i64 (rd8 (b.drop (8 * n)))) true) := by
  refine spec_k (hold mixed) b_journal_get [(.i .i64 (rd8 (b.drop (8 * n))), true)] ?_
  simp -implicitDefEqProofs only [go_sem, seval, sk]
  refine loop_l (α := Nat) (fun k => ⟨tmL [(0, .t (.sl (bT b)) false), (1, .t (.i .i64 n) true), (5, .t (.i .u64 (natL ((b.drop (8 * n)).take k))) true), (7, .t (.i .i64 k) true)], []⟩) (fun k => 8 - k) (fun k => k ≤ 8) 0 (by simp -implicitDefEqProofs only [go_sem, seval] <;> rfl) (Nat.zero_le _) ?_
  intro k hk R hR
  simp -implicitDefEqProofs only [go_sem, seval, sk]
  refine wcond_mk (fun hh => ?_) (fun hh => ?_)
  · have hk' : k < 8 := by have := of_decide_eq_true hh; omega
    have e1 : IntKind.i64.wrap (8 * (n : Int)) = ((8 * n : Nat) : Int) := by rw [wrap_i64_id (by omega) (by omega)]; omega
    have e2 : IntKind.i64.wrap (((8 * n : Nat) : Int) + (k : Int)) = ((8 * n + k : Nat) : Int) := by rw [wrap_i64_id (by omega) (by omega)]; omega
    have e3 : IntKind.i64.wrap (8 * (k : Int)) = ((8 * k : Nat) : Int) := by rw [wrap_i64_id (by omega) (by omega)]; omega
    have e4 : IntKind.i64.wrap ((k : Int) + 1) = ((k + 1 : Nat) : Int) := by rw [wrap_i64_id (by omega) (by omega)]; omega
    have hl : 8 * n + k < b.length := by omega
    have e5 : ((8 * n + k : Nat) : Int) < (b.length : Int) := by omega
    simp -implicitDefEqProofs only [go_sem, seval, sk, e1, e2, e3, e4, bT_get hl, eq_true e5]
    refine hR (k + 1) _ ?_ (by omega) (by omega)
    have hdl : k < (b.drop (8 * n)).length := by rw [List.length_drop]; omega
    have ho := or_L (a := natL ((b.drop (8 * n)).take k)) b[8 * n + k] (by
      have := natL_lt ((b.drop (8 * n)).take k)
      rwa [List.length_take, Nat.min_eq_left (by omega)] at this) hk'
    have hnt := natL_take hdl
    rw [List.getElem_drop] at hnt
    rw [← hnt] at ho
    simp -implicitDefEqProofs only [go_sem, seval]
    erw [ho]
  · have hk' : k = 8 := by have := of_decide_eq_false hh; omega
    subst hk'
    simp -implicitDefEqProofs only [go_sem, seval, sk]
    rfl
theorem rd_end (b : List (BitVec 8)) : natL ((b.take 8).drop 8) = 0 := by
  rw [List.drop_of_length_le (by rw [List.length_take]; omega)]
  rfl
theorem s_ref06_read (b : List (BitVec 8)) (hb : 8 ≤ b.length) : Spec Tryz.prog 109 [.sl (bT b)] [] (.t (.i .i64 (rd8 b)) true) := by
  refine spec_k (hold mixed) b_ref06_read [(.i .i64 (rd8 b), true)] ?_
  simp -implicitDefEqProofs only [go_sem, seval, sk]
  refine loop_l (α := Nat) (fun k => ⟨tmL [(0, .t (.sl (bT b)) false), (3, .t (.i .u64 (natL ((b.take 8).drop (8 - k)))) true), (4, .t (.i .i64 (7 - (k : Int))) true)], []⟩) (fun k => 8 - k) (fun k => k ≤ 8) 0 (by rw [show 8 - 0 = 8 from rfl, rd_end]; simp -implicitDefEqProofs only [go_sem, seval] <;> rfl) (Nat.zero_le _) ?_
  intro k hk R hR
  simp -implicitDefEqProofs only [go_sem, seval, sk]
  refine wcond_mk (fun hh => ?_) (fun hh => ?_)
  · have hk' : k < 8 := by have := of_decide_eq_true hh; omega
    have e1 : (7 - (k : Int)) = ((7 - k : Nat) : Int) := by omega
    have e2 : IntKind.i64.wrap (((7 - k : Nat) : Int) - 1) = 7 - ((k + 1 : Nat) : Int) := by rw [wrap_i64_id (by omega) (by omega)]; omega
    have hl : 7 - k < b.length := by omega
    have e5 : ((7 - k : Nat) : Int) < (b.length : Int) := by omega
    simp -implicitDefEqProofs only [go_sem, seval, sk, e1, e2, bT_get hl, eq_true e5]
    refine hR (k + 1) _ ?_ (by omega) (by omega)
    have htl : (b.take 8).length = 8 := by rw [List.length_take]; omega
    have hdr : (b.take 8).drop (8 - (k + 1)) = b[7 - k] :: (b.take 8).drop (8 - k) := by
      rw [List.drop_eq_getElem_cons (show 8 - (k + 1) < (b.take 8).length by omega)]
      rw [show 8 - (k + 1) + 1 = 8 - k by omega]
      simp only [List.getElem_take, show 8 - (k + 1) = 7 - k by omega]
    have hlt := natL_lt ((b.take 8).drop (8 - k))
    rw [List.length_drop, htl, show 8 * (8 - (8 - k)) = 8 * k by omega] at hlt
    have hp : 2 ^ (8 * k) ≤ 2 ^ 56 := Nat.pow_le_pow_right (by omega) (by omega)
    have hx := b[7 - k].isLt
    have hr : IntKind.u64.wrap (IntKind.u64.wrap (256 * ((natL ((b.take 8).drop (8 - k)) : Nat) : Int)) + IntKind.u64.wrap ((b[7 - k].toNat : Nat) : Int)) = ((natL ((b.take 8).drop (8 - (k + 1))) : Nat) : Int) := by
      rw [hdr, natL, u64_id (show b[7 - k].toNat < 2 ^ 64 by omega), show 256 * ((natL ((b.take 8).drop (8 - k)) : Nat) : Int) = ((256 * natL ((b.take 8).drop (8 - k)) : Nat) : Int) by simp, u64_id (show 256 * natL ((b.take 8).drop (8 - k)) < 2 ^ 64 by omega), ← Int.natCast_add, u64_id (by omega), Nat.add_comm]
    simp -implicitDefEqProofs only [go_sem, seval, hr]
  · have hk' : k = 8 := by have := of_decide_eq_false hh; omega
    subst hk'
    simp -implicitDefEqProofs only [go_sem, seval, sk]
    rfl
theorem pow8_succ (k : Nat) : 2 ^ (8 * (k + 1)) = 2 ^ (8 * k) * 256 := by rw [show 8 * (k + 1) = 8 * k + 8 by omega, Nat.pow_add]
theorem bT_nil8 : bT [] = [] := rfl
def wrB (m : Int × Int) : List (BitVec 8) := BitVec.ofInt 8 m.1 :: le8 m.2
theorem wrB_len (m : Int × Int) : (wrB m).length = 9 := by simp [wrB, le8_len]
theorem wrap_u8_int (n : Int) : IntKind.u8.wrap n = (((BitVec.ofInt 8 n).toNat : Nat) : Int) := by
  rw [BitVec.toNat_ofInt]
  have h : (0 : Int) ≤ n % ((2 ^ 8 : Nat) : Int) := Int.emod_nonneg _ (by decide)
  rw [Int.toNat_of_nonneg h]
  rfl
theorem le8_bT (n : Int) : (bT (le8 n)).length = 8 := by rw [bT_length, le8_len]
theorem wrB_bT (m : Int × Int) : bT (wrB m) = [.i .u8 (BitVec.ofInt 8 m.1).toNat] :: bT (le8 m.2) := rfl
theorem le8_bT8 (n : Int) : List.take 8 (bT (le8 n)) = bT (le8 n) := List.take_of_length_le (by rw [le8_bT]; exact Nat.le_refl _)
structure Jr where
  s : Slt
  l : WLog
  c : List Int
  deriving DecidableEq
def Jr.cells (j : Jr) : List T := j.s.cells ++ (j.l.cells ++ clT j.c)
def ptB (j : Jr) : List (BitVec 8) := les (j.l.next :: j.c)
theorem ptB_len {j : Jr} (h8 : j.c.length = 8) : (ptB j).length = 72 := by rw [ptB, les_len, List.length_cons, h8]
theorem les_one (n : Int) : les [n] = le8 n := by simp [les]
theorem les_cons (n : Int) (l : List Int) : les (n :: l) = le8 n ++ les l := by simp [les]
theorem s_journal_point (j : Jr) (h8 : j.c.length = 8) : Spec Tryz.prog 52 [.agg j.cells] [.row 0 1 (bT (ptB j)) true] (.row 0 0 0 72) := by
  refine spec_ko (hold mixed) b_journal_point [.row 0 1 (bT (ptB j)) true] [.row 0 0 0 72] ?_
  simp -implicitDefEqProofs only [go_sem, seval, sk, Jr.cells, clF_map]
  refine onto_d (bT (le8 j.l.next)) (by have := s_journal_put [] [j.l.next] (by simp) (by simp); rwa [les_one] at this) ?_ (by simp -implicitDefEqProofs only [go_sem, seval, sk]; rfl)
  simp -implicitDefEqProofs only [go_sem, seval, sk, clF_map]
  refine ⟨by omega, ?_⟩
  have ht := clF_take (l := false) h8
  have hp := plains_clF false h8
  have hc := chunk8 h8
  refine over_d (b := true) (bT (les j.c)) (s_journal_put (le8 j.l.next) j.c (by rw [le8_len]; omega) (by omega)) (by simp -implicitDefEqProofs only [go_sem, seval, sk]) (by simp -implicitDefEqProofs only [go_sem, seval, sk]) ?_ (by simp -implicitDefEqProofs only [go_sem, seval, sk, ht, hp, h8, hc, room8]; exact iT_len1 _) (by simp -implicitDefEqProofs only [go_sem, seval, sk])
  simp -implicitDefEqProofs only [go_sem, seval, sk, ← bT_append, ← les_cons]
  refine ends_mk [2] ?_ ?_
  · simp -implicitDefEqProofs only [go_sem, seval]
    rw [show ptB j = les (j.l.next :: j.c) from rfl]
    exact ⟨bT_take_self _, Nat.le_refl _⟩
  · simp -implicitDefEqProofs only [go_sem, seval, le8_len, les_len, h8]
def rdC (b : List (BitVec 8)) : List Int := (List.range 8).map fun i => rd8 (b.drop (8 * (i + 1)))
theorem rdC_len (b : List (BitVec 8)) : (rdC b).length = 8 := by simp [rdC]
def baseB (b : List (BitVec 8)) : Int × List Int × Bool := if b.length = 72 then (rd8 b, rdC b, decide (0 ≤ rd8 b) && (decide (rd8 b ≤ 1000000000) && stOK (rdC b))) else (0, z8, false)
def baseV (s : Slt) : Int × List Int × Bool := match newO s with
  | none => (0, z8, true)
  | some r => baseB r.data
theorem baseV_len (s : Slt) : (baseV s).2.1.length = 8 := by
  unfold baseV
  split
  · rfl
  · unfold baseB
    split
    · exact rdC_len _
    · rfl
def opB (p : Int × List Int × Bool) : List (T × Bool) := [(.i .i64 p.1, true), (.agg (clT p.2.1), true), (.b p.2.2, true)]
attribute [go_sem] opB
def rdP (k : Nat) (b : List (BitVec 8)) : List (Int × Bool) := (List.range 8).map fun i => if i < k then (rd8 (b.drop (8 * (i + 1))), true) else (0, true)
theorem rdP_len (k : Nat) (b : List (BitVec 8)) : (rdP k b).length = 8 := by simp [rdP]
theorem rdP_all (b : List (BitVec 8)) : rdP 8 b = mk1 true (rdC b) := by rfl
theorem rdP_set {k : Nat} (b : List (BitVec 8)) (h : k < 8) : (rdP k b).set k (rd8 (b.drop (8 * (k + 1))), true) = rdP (k + 1) b := by
  rcases (by omega : k = 0 ∨ k = 1 ∨ k = 2 ∨ k = 3 ∨ k = 4 ∨ k = 5 ∨ k = 6 ∨ k = 7) with rfl | rfl | rfl | rfl | rfl | rfl | rfl | rfl <;> rfl
def jbF (s : Slt) (b : List (BitVec 8)) (k : Nat) : S := ⟨tmL [(3, .ptr 1 0), (6, .t (.sl (bT b)) true), (26, .t (.i .i64 k) true)], [.var (s.cells.map fun x => .t x false), .var (clM (rdP k b))]⟩
theorem s_journal_base (s : Slt) (hs : s.fine) (h : s.ok) : Spec Tryz.prog 60 [.agg s.cells] [] (resV ((opB (baseV s)).map AV.ofT)) := by
  refine spec_k (hold mixed) b_journal_base (opB (baseV s)) ?_
  have hL := s_slots_Load s hs
  cases hn : newO s with
  | none =>
    have hl : loadS s = (0, [], 6) := by simp only [loadS, if_pos h, hn]
    have hb : baseV s = (0, z8, true) := by simp only [baseV, hn]
    rw [hl] at hL
    rw [hb]
    simp -implicitDefEqProofs only [go_sem, seval, sk]
    refine call_k hL ?_
    simp -implicitDefEqProofs only [go_sem, seval, sk, z8_T]
  | some r =>
    have hl : loadS s = (r.num, r.data, 0) := by simp only [loadS, if_pos h, hn]
    have hb : baseV s = baseB r.data := by simp only [baseV, hn]
    rw [hl] at hL
    rw [hb]
    generalize r.data = b at *
    simp -implicitDefEqProofs only [go_sem, seval, sk]
    refine call_k hL ?_
    by_cases h72 : b.length = 72
    · rw [show baseB b = _ from if_pos h72]
      have e72 : ((b.length : Int) != 72) = false := by simp; omega
      simp -implicitDefEqProofs only [go_sem, seval, sk, e72]
      refine loop_l (α := Nat) (jbF s b) (fun k => 8 - k) (fun k => k ≤ 8) 0 (by simp -implicitDefEqProofs only [go_sem, seval, jbF]; rfl) (Nat.zero_le _) ?_
      intro k hk R hR
      simp -implicitDefEqProofs only [go_sem, seval, sk, jbF]
      refine wcond_mk (fun hh => ?_) (fun hh => ?_)
      · have hk' : k < 8 := by have := of_decide_eq_true hh; omega
        have e1 : IntKind.i64.wrap ((k : Int) + 1) = ((k + 1 : Nat) : Int) := by rw [wrap_i64_id (by omega) (by omega)]; omega
        have e2 : ((k : Int) < 8) = True := eq_true (by omega)
        have e3 : ((0 : Int) ≤ (k : Int)) = True := eq_true (by omega)
        have hG := s_journal_get b (k + 1) (by omega) (by omega)
        have hkl : k < (rdP k b).length := by rw [rdP_len]; exact hk'
        simp -implicitDefEqProofs only [go_sem, seval, sk, e1, e2]
        refine call_k hG ?_
        simp -implicitDefEqProofs only [go_sem, seval, sk, e1, e2, e3, clM_get hkl, Nat.mul_one, clM_cut hkl, rdP_set b hk']
        exact ⟨by rw [rdP_len]; omega, hR (k + 1) _ (by simp -implicitDefEqProofs only [go_sem, seval, jbF]) (by omega) (by omega)⟩
      · have hk' : k = 8 := by have := of_decide_eq_false hh; omega
        subst hk'
        have hG := s_journal_get b 0 (by omega) (by omega)
        rw [Nat.mul_zero, List.drop_zero, Int.natCast_zero] at hG
        have hc8 := rdC_len b
        simp -implicitDefEqProofs only [go_sem, seval, sk, rdP_all, ← clF_M]
        generalize rdC b = c at *
        have hF := s_journal_fine c hc8
        have ht := clF_take (l := true) hc8
        have hd := clF_drop (l := true) hc8
        refine call_k hG ?_
        by_cases c1 : 0 ≤ rd8 b
        · by_cases c2 : rd8 b ≤ 1000000000
          · simp -implicitDefEqProofs only [go_sem, seval, sk, eq_true c1, eq_true c2, hc8, ht, hd, List.append_nil]
            refine call_d hF ?_ (by simp -implicitDefEqProofs only [go_sem, seval, sk, ht])
            simp -implicitDefEqProofs only [go_sem, seval, sk, hc8, ht, hd, List.append_nil]
            exact ⟨clF_one _ _, by simp [c1, c2]⟩
          · simp -implicitDefEqProofs only [go_sem, seval, sk, eq_true c1, eq_false c2, hc8, ht, hd, List.append_nil]
            exact clF_one _ _
        · simp -implicitDefEqProofs only [go_sem, seval, sk, eq_false c1, hc8, ht, hd, List.append_nil]
          exact clF_one _ _
    · have e72 : ((b.length : Int) != 72) = true := by simp; omega
      rw [show baseB b = _ from if_neg h72]
      simp -implicitDefEqProofs only [go_sem, seval, sk, e72, z8_T]
def rbF (s : Slt) (r : Rec) (k : Nat) : S := ⟨tmL [(3, .ptr 1 0), (5, .ptr 2 0), (6, .ptr 3 0), (8, .t (.i .i64 k) true)], [.var (s.cells.map fun x => .t x false), .var (clM (mk1 true z8)), .var (clM (rdP k r.data)), .var (r.cells.map fun x => .t x true)]⟩
theorem z8L : z8.length = 8 := rfl
theorem z8D (l : Bool) : List.drop 8 (clF l z8) = [] := rfl
theorem s_ref06_base (s : Slt) (hs : s.fine) : Spec Tryz.prog 64 [.agg s.cells] [] (resV ((opB (baseV s)).map AV.ofT)) := by
  refine spec_k (hold mixed) b_ref06_base (opB (baseV s)) ?_
  have hL := s_ref05_Newest s hs.1 hs.2.1
  cases hn : newO s with
  | none =>
    have hb : baseV s = (0, z8, true) := by simp only [baseV, hn]
    rw [hn] at hL
    replace hL : Spec Tryz.prog 63 [.agg s.cells] [] (.tup [.t (.agg [.i .i64 0, .sl []]) true, .t (.b false) true]) := hL
    rw [hb]
    simp -implicitDefEqProofs only [go_sem, seval, sk]
    refine call_k hL ?_
    simp -implicitDefEqProofs only [go_sem, seval, sk, z8_T]
  | some r =>
    have hb : baseV s = baseB r.data := by simp only [baseV, hn]
    rw [hn] at hL
    replace hL : Spec Tryz.prog 63 [.agg s.cells] [] (.tup [.t (.agg [.i .i64 r.num, .sl (bT r.data)]) true, .t (.b true) true]) := hL
    rw [hb]
    simp -implicitDefEqProofs only [go_sem, seval, sk]
    refine call_k hL ?_
    simp -implicitDefEqProofs only [go_sem, seval, sk]
    by_cases h72 : r.data.length = 72
    · rw [show baseB r.data = _ from if_pos h72]
      have e72 : ((r.data.length : Int) != 72) = false := by simp; omega
      simp -implicitDefEqProofs only [go_sem, seval, sk, e72]
      refine loop_l (α := Nat) (rbF s r) (fun k => 8 - k) (fun k => k ≤ 8) 0 (by simp -implicitDefEqProofs only [go_sem, seval, rbF, Rec.cells]; rfl) (Nat.zero_le _) ?_
      intro k hk R hR
      simp -implicitDefEqProofs only [go_sem, seval, sk, rbF, Rec.cells]
      refine wcond_mk (fun hh => ?_) (fun hh => ?_)
      · have hk' : k < 8 := by have := of_decide_eq_true hh; omega
        have e1 : IntKind.i64.wrap ((k : Int) + 1) = ((k + 1 : Nat) : Int) := by rw [wrap_i64_id (by omega) (by omega)]; omega
        have e4 : IntKind.i64.wrap (8 * ((k + 1 : Nat) : Int)) = ((8 * (k + 1) : Nat) : Int) := by rw [wrap_i64_id (by omega) (by omega)]; omega
        have e2 : ((k : Int) < 8) = True := eq_true (by omega)
        have e3 : ((0 : Int) ≤ (k : Int)) = True := eq_true (by omega)
        have hG := s_ref06_read (r.data.drop (8 * (k + 1))) (by rw [List.length_drop]; omega)
        have hkl : k < (rdP k r.data).length := by rw [rdP_len]; exact hk'
        have hsl : List.take ((r.data.length : Int) - ((8 * (k + 1) : Nat) : Int)).toNat (List.drop (8 * (k + 1)) (bT r.data)) = bT (List.drop (8 * (k + 1)) r.data) := by
          rw [List.take_of_length_le (by rw [List.length_drop, bT_length]; omega)]
          simp [bT, List.map_drop]
        simp -implicitDefEqProofs only [go_sem, seval, sk, e1, e2, e4, hsl]
        refine ⟨⟨by omega, okEs_bT _⟩, ?_⟩
        refine call_k hG ?_
        simp -implicitDefEqProofs only [go_sem, seval, sk, e1, e2, e3, clM_get hkl, Nat.mul_one, clM_cut hkl, rdP_set r.data hk']
        exact ⟨by rw [rdP_len]; omega, hR (k + 1) _ (by simp -implicitDefEqProofs only [go_sem, seval, rbF, Rec.cells, e1]) (by omega) (by omega)⟩
      · have hk' : k = 8 := by have := of_decide_eq_false hh; omega
        subst hk'
        have hG := s_ref06_read r.data (by omega)
        have hc8 := rdC_len r.data
        simp -implicitDefEqProofs only [go_sem, seval, sk, rdP_all, ← clF_M]
        generalize rdC r.data = c at *
        have hF := s_ref06_State c hc8
        have ht := clF_take (l := true) hc8
        have hd := clF_drop (l := true) hc8
        refine call_k hG ?_
        by_cases c1 : 0 ≤ rd8 r.data
        · by_cases c2 : rd8 r.data ≤ 1000000000
          · simp -implicitDefEqProofs only [go_sem, seval, sk, eq_true c1, eq_true c2, hc8, ht, hd, z8L, z8D, List.append_nil]
            refine call_d hF ?_ (by simp -implicitDefEqProofs only [go_sem, seval, sk, ht])
            simp -implicitDefEqProofs only [go_sem, seval, sk, hc8, ht, hd, z8L, z8D, List.append_nil]
            exact ⟨clF_one _ _, by simp [c1, c2]⟩
          · simp -implicitDefEqProofs only [go_sem, seval, sk, eq_true c1, eq_false c2, hc8, ht, hd, z8L, z8D, List.append_nil]
            exact clF_one _ _
        · simp -implicitDefEqProofs only [go_sem, seval, sk, eq_false c1, hc8, ht, hd, z8L, z8D, List.append_nil]
          exact clF_one _ _
    · have e72 : ((r.data.length : Int) != 72) = true := by simp; omega
      rw [show baseB r.data = _ from if_neg h72]
      simp -implicitDefEqProofs only [go_sem, seval, sk, e72, z8_T]
end Go.Proofs.YtlfpafdkegnkoaaGreat.Pm
