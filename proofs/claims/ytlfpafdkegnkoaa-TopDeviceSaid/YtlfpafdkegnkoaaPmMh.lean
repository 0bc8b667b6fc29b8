/- Texts of this proof in one file: PmKs, PmSa, PmSb, PmSc, PmSd. No law of Go's is stated here. -/
import Derived.Test.YtlfpafdkegnkoaaPmMd
import Derived.Test.YtlfpafdkegnkoaaPmMc
import Derived.Test.YtlfpafdkegnkoaaPmMf
import Derived.Test.YtlfpafdkegnkoaaPmMg
set_option linter.all false
set_option maxRecDepth 100000
namespace Go.Proofs.Ytlfpafdkegnkoaa.Pm
open Go Go.RowKit
def c_slots_Load : C := (.seq (.seq (.reg ([⟨some 1, .box 29 (.tmp 0), none⟩, ⟨some 2, .assign (.const (.int .i64 0)), none⟩, ⟨some 3, .assign (.const (.slice none 0 0)), none⟩, ⟨some 4, .assign (.const (.int .i64 0)), none⟩])) (.keep [1])) (.seq (.seq (.seq (.reg ([⟨some 7, .load 29 (.tmp 1), none⟩, ⟨some 8, .call { callee := .value (.func 43), args := #[(.tmp 7)], argTypes := #[29] }, none⟩, ⟨some 5, .assign (.tmp 8), none⟩])) (.keep [1, 5])) (.seq (.seq (.reg ([⟨some 9, .move (.tmp 5), none⟩, ⟨some 10, .binOp .neq 35 (.tmp 9) (.const (.int .i64 0)) 35, none⟩])) (.keep [1, 5, 10])) (.cond (.tmp 10) (.seq (.seq (.reg ([⟨some 11, .move (.tmp 5), none⟩, ⟨some 2, .assign (.const (.int .i64 0)), none⟩, ⟨some 3, .assign (.const (.slice none 0 0)), none⟩, ⟨some 4, .assign (.tmp 11), none⟩])) (.keep [2, 3, 4])) .ret) .skip))) (.seq (.seq (.reg ([⟨some 12, .load 29 (.tmp 1), none⟩, ⟨some 13, .call { callee := .value (.func 44), args := #[(.tmp 12)], argTypes := #[29] }, none⟩, ⟨some 6, .alloc 47, none⟩, ⟨none, .store 47 (.tmp 6) (.tmp 13), none⟩])) (.keep [6])) (.seq (.seq (.seq (.reg ([⟨some 14, .fieldAddr 47 (.tmp 6) 0, none⟩, ⟨some 15, .load 3 (.tmp 14), none⟩, ⟨some 16, .binOp .lss 3 (.tmp 15) (.const (.int .i64 0)) 3, none⟩])) (.keep [6, 16])) (.cond (.tmp 16) (.seq (.seq (.reg ([⟨some 2, .assign (.const (.int .i64 0)), none⟩, ⟨some 3, .assign (.const (.slice none 0 0)), none⟩, ⟨some 4, .assign (.const (.int .i64 6)), none⟩])) (.keep [2, 3, 4])) .ret) .skip)) (.seq (.seq (.draw ([⟨⟨some 17, .fieldAddr 47 (.tmp 6) 0, none⟩, []⟩, ⟨⟨some 18, .load 3 (.tmp 17), none⟩, []⟩, ⟨⟨some 19, .fieldAddr 47 (.tmp 6) 1, none⟩, [0, 1]⟩, ⟨⟨some 20, .load 24 (.tmp 19), none⟩, [0, 1]⟩, ⟨⟨some 2, .assign (.tmp 18), none⟩, [2, 3]⟩, ⟨⟨some 3, .assign (.tmp 20), none⟩, []⟩, ⟨⟨some 4, .assign (.const (.int .i64 0)), none⟩, []⟩])) (.keep [2, 3, 4])) .ret)))))
attribute [go_sem ↓] c_slots_Load
def h_slots_Load : List Hint := [⟨[], [1], []⟩, ⟨[], [1, 5], []⟩, ⟨[], [1, 5, 10], []⟩, ⟨[], [2, 3, 4], []⟩, ⟨[], [6], []⟩, ⟨[], [6, 16], []⟩, ⟨[], [2, 3, 4], []⟩, ⟨[], [2, 3, 4], []⟩]
theorem b_slots_Load : Body Try.prog 16 [] h_slots_Load c_slots_Load 21 [.tmp 2, .tmp 3, .tmp 4] := body_of Try.func16 (by kernel_rfl) (by kernel_rfl) (by kernel_rfl) (by kernel_rfl)
def c_slots_New : C := (.seq (.seq (.reg ([⟨some 2, .alloc 29, none⟩, ⟨some 3, .assign (.const (.int .i64 0)), none⟩])) (.keep [0, 2])) (.seq (.seq (.reg ([⟨some 7, .move (.tmp 0), none⟩, ⟨some 8, .call { callee := .value (.func 26), args := #[(.tmp 7)], argTypes := #[3] }, none⟩, ⟨some 6, .move (.tmp 8), none⟩, ⟨some 9, .extract (.tmp 6) 0, none⟩, ⟨some 10, .extract (.tmp 6) 1, none⟩, ⟨some 4, .alloc 26, none⟩, ⟨none, .store 26 (.tmp 4) (.tmp 9), none⟩, ⟨some 5, .assign (.tmp 10), none⟩])) (.keep [2, 4, 5])) (.seq (.seq (.seq (.reg ([⟨some 11, .move (.tmp 5), none⟩, ⟨some 12, .binOp .neq 35 (.tmp 11) (.const (.int .i64 0)) 35, none⟩])) (.keep [2, 4, 5, 12])) (.cond (.tmp 12) (.seq (.seq (.reg ([⟨some 13, .build 29 #[], none⟩, ⟨some 14, .move (.tmp 5), none⟩, ⟨none, .store 29 (.tmp 2) (.tmp 13), none⟩, ⟨some 3, .assign (.tmp 14), none⟩])) (.keep [2, 3])) .ret) .skip)) (.seq (.seq (.reg ([⟨some 15, .load 26 (.tmp 4), none⟩, ⟨some 16, .load 26 (.tmp 4), none⟩, ⟨some 17, .build 27 #[(0, (.tmp 15)), (1, (.tmp 16))], none⟩, ⟨some 18, .build 29 #[(0, (.tmp 17)), (1, (.const (.int .i64 1)))], none⟩, ⟨none, .store 29 (.tmp 2) (.tmp 18), none⟩, ⟨some 3, .assign (.const (.int .i64 0)), none⟩])) (.keep [2, 3])) .ret))))
attribute [go_sem ↓] c_slots_New
def h_slots_New : List Hint := [⟨[], [0, 2], []⟩, ⟨[], [2, 4, 5], []⟩, ⟨[], [2, 4, 5, 12], []⟩, ⟨[], [2, 3], []⟩, ⟨[], [2, 3], []⟩]
theorem b_slots_New : Body Try.prog 25 [] h_slots_New c_slots_New 19 [.cell 2 29, .tmp 3] := body_of Try.func25 (by kernel_rfl) (by kernel_rfl) (by kernel_rfl) (by kernel_rfl)
def c_slots_Save : C := (.seq (.seq (.reg ([⟨some 2, .box 29 (.tmp 0), none⟩, ⟨some 4, .alloc 29, none⟩, ⟨some 5, .assign (.const (.int .i64 0)), none⟩, ⟨some 6, .assign (.const (.int .i64 0)), none⟩])) (.keep [1, 2, 4])) (.seq (.seq (.reg ([⟨some 11, .load 29 (.tmp 2), none⟩, ⟨some 12, .move (.tmp 1), none⟩, ⟨some 13, .call { callee := .value (.func 66), args := #[(.tmp 11), (.tmp 12)], argTypes := #[29, 24] }, none⟩, ⟨some 10, .move (.tmp 13), none⟩, ⟨some 14, .extract (.tmp 10) 0, none⟩, ⟨some 15, .extract (.tmp 10) 1, none⟩, ⟨some 7, .assign (.tmp 14), none⟩, ⟨some 8, .assign (.tmp 15), none⟩])) (.keep [2, 4, 7, 8])) (.seq (.seq (.seq (.reg ([⟨some 16, .move (.tmp 8), none⟩, ⟨some 17, .binOp .neq 35 (.tmp 16) (.const (.int .i64 0)) 35, none⟩])) (.keep [2, 4, 7, 8, 17])) (.cond (.tmp 17) (.seq (.seq (.reg ([⟨some 18, .build 29 #[], none⟩, ⟨some 19, .move (.tmp 8), none⟩, ⟨none, .store 29 (.tmp 4) (.tmp 18), none⟩, ⟨some 5, .assign (.const (.int .i64 0)), none⟩, ⟨some 6, .assign (.tmp 19), none⟩])) (.keep [4, 5, 6])) .ret) .skip)) (.seq (.seq (.reg ([⟨some 20, .fieldAddr 29 (.tmp 2) 1, none⟩, ⟨some 21, .load 3 (.tmp 20), none⟩, ⟨some 9, .assign (.tmp 21), none⟩])) (.keep [2, 4, 7, 9])) (.seq (.seq (.reg ([⟨some 22, .load 29 (.tmp 2), none⟩, ⟨some 23, .move (.tmp 7), none⟩, ⟨some 24, .call { callee := .value (.func 67), args := #[(.tmp 22), (.tmp 23), (.const (.int .i64 3))], argTypes := #[29, 24, 3] }, none⟩, ⟨none, .store 29 (.tmp 2) (.tmp 24), none⟩])) (.keep [2, 4, 9])) (.seq (.seq (.reg ([⟨some 25, .move (.tmp 9), none⟩, ⟨some 26, .binOp .add 3 (.tmp 25) (.const (.int .i64 1)) 3, none⟩, ⟨some 27, .fieldAddr 29 (.tmp 2) 1, none⟩, ⟨none, .store 3 (.tmp 27) (.tmp 26), none⟩])) (.keep [2, 4, 9])) (.seq (.seq (.reg ([⟨some 28, .load 29 (.tmp 2), none⟩, ⟨some 29, .move (.tmp 9), none⟩, ⟨none, .store 29 (.tmp 4) (.tmp 28), none⟩, ⟨some 5, .assign (.tmp 29), none⟩, ⟨some 6, .assign (.const (.int .i64 0)), none⟩])) (.keep [4, 5, 6])) .ret)))))))
attribute [go_sem ↓] c_slots_Save
def h_slots_Save : List Hint := [⟨[], [1, 2, 4], []⟩, ⟨[], [2, 4, 7, 8], []⟩, ⟨[], [2, 4, 7, 8, 17], []⟩, ⟨[], [4, 5, 6], []⟩, ⟨[], [2, 4, 7, 9], []⟩, ⟨[], [2, 4, 9], []⟩, ⟨[], [2, 4, 9], []⟩, ⟨[], [4, 5, 6], []⟩]
theorem b_slots_Save : Body Try.prog 30 [] h_slots_Save c_slots_Save 30 [.cell 4 29, .tmp 5, .tmp 6] := body_of Try.func30 (by kernel_rfl) (by kernel_rfl) (by kernel_rfl) (by kernel_rfl)
def c_slots_Check : C := (.seq (.seq (.reg ([⟨some 1, .box 29 (.tmp 0), none⟩, ⟨some 2, .assign (.const (.int .i64 0)), none⟩])) (.keep [1])) (.seq (.seq (.seq (.reg ([⟨some 5, .fieldAddr 29 (.tmp 1) 0, none⟩, ⟨some 6, .load 27 (.tmp 5), none⟩, ⟨some 7, .move (.const (.int .i64 0)), none⟩])) (.keep [1, 6, 7])) (.block 0 (.loop [] [1, 6, 7] (.seq (.seq (.reg ([⟨some 8, .binOp .lss 3 (.tmp 7) (.const (.int .i64 2)) 3, none⟩])) (.keep [1, 6, 7, 8])) (.seq (.cond (.tmp 8) .skip (.exit 0)) (.seq (.block 1 (.seq (.seq (.reg ([⟨some 9, .index 27 (.tmp 6) (.tmp 7), none⟩, ⟨some 4, .alloc 26, none⟩, ⟨none, .store 26 (.tmp 4) (.tmp 9), none⟩])) (.keep [1, 4, 6, 7])) (.seq (.seq (.reg ([⟨some 10, .load 26 (.tmp 4), none⟩, ⟨some 11, .call { callee := .value (.func 39), args := #[(.tmp 10)], argTypes := #[26] }, none⟩, ⟨some 12, .binOp .neq 35 (.tmp 11) (.const (.int .i64 0)) 35, none⟩, ⟨some 13, .move (.tmp 12), none⟩, ⟨some 14, .fieldAddr 26 (.tmp 4) 3, some (13, false)⟩, ⟨some 15, .load 4 (.tmp 14), some (13, false)⟩, ⟨some 16, .pick (.tmp 13) (.const (.bool true)) (.tmp 15), none⟩, ⟨some 17, .move (.tmp 16), none⟩, ⟨some 18, .fieldAddr 26 (.tmp 4) 1, some (17, false)⟩, ⟨some 19, .load 24 (.tmp 18), some (17, false)⟩, ⟨some 20, .call { callee := .builtin .len, args := #[(.tmp 19)], argTypes := #[24] }, some (17, false)⟩, ⟨some 21, .binOp .gtr 3 (.tmp 20) (.const (.int .i64 0)) 3, some (17, false)⟩, ⟨some 22, .pick (.tmp 17) (.const (.bool true)) (.tmp 21), none⟩])) (.keep [1, 6, 7, 22])) (.cond (.tmp 22) (.seq (.seq (.reg ([⟨some 2, .assign (.const (.int .i64 8)), none⟩])) (.keep [2])) .ret) .skip)))) (.seq (.reg ([⟨some 23, .binOp .add 3 (.tmp 7) (.const (.int .i64 1)) 3, none⟩, ⟨some 7, .move (.tmp 23), none⟩])) (.keep [1, 6, 7])))))))) (.seq (.seq (.seq (.reg ([⟨some 24, .fieldAddr 29 (.tmp 1) 1, none⟩, ⟨some 25, .load 3 (.tmp 24), none⟩, ⟨some 26, .binOp .lss 3 (.tmp 25) (.const (.int .i64 1)) 3, none⟩, ⟨some 27, .move (.tmp 26), none⟩, ⟨some 28, .fieldAddr 29 (.tmp 1) 1, some (27, false)⟩, ⟨some 29, .load 3 (.tmp 28), some (27, false)⟩, ⟨some 30, .binOp .gtr 3 (.tmp 29) (.const (.int .i64 1000000001)) 3, some (27, false)⟩, ⟨some 31, .pick (.tmp 27) (.const (.bool true)) (.tmp 30), none⟩])) (.keep [31])) (.cond (.tmp 31) (.seq (.seq (.reg ([⟨some 2, .assign (.const (.int .i64 8)), none⟩])) (.keep [2])) .ret) .skip)) (.seq (.seq (.reg ([⟨some 2, .assign (.const (.int .i64 0)), none⟩])) (.keep [2])) .ret))))
attribute [go_sem ↓] c_slots_Check
def h_slots_Check : List Hint := [⟨[], [1], []⟩, ⟨[], [1, 6, 7], []⟩, ⟨[], [1, 6, 7], []⟩, ⟨[], [1, 6, 7, 8], []⟩, ⟨[], [1, 4, 6, 7], []⟩, ⟨[], [1, 6, 7, 22], []⟩, ⟨[], [2], []⟩, ⟨[], [1, 6, 7], []⟩, ⟨[], [31], []⟩, ⟨[], [2], []⟩, ⟨[], [2], []⟩]
theorem b_slots_Check : Body Try.prog 43 [] h_slots_Check c_slots_Check 32 [.tmp 2] := body_of Try.func43 (by kernel_rfl) (by kernel_rfl) (by kernel_rfl) (by kernel_rfl)
def c_slots_newest : C := (.seq (.seq (.reg ([⟨some 1, .box 29 (.tmp 0), none⟩, ⟨some 2, .alloc 47, none⟩])) (.keep [1, 2])) (.seq (.seq (.reg ([⟨some 9, .build 47 #[(0, (.const (.int .i64 (-1))))], none⟩, ⟨some 3, .alloc 47, none⟩, ⟨none, .store 47 (.tmp 3) (.tmp 9), none⟩])) (.keep [1, 2, 3])) (.seq (.seq (.seq (.reg ([⟨some 10, .fieldAddr 29 (.tmp 1) 0, none⟩, ⟨some 11, .load 27 (.tmp 10), none⟩, ⟨some 12, .move (.const (.int .i64 0)), none⟩])) (.keep [2, 3, 11, 12])) (.block 0 (.loop [] [2, 3, 11, 12] (.seq (.seq (.reg ([⟨some 13, .binOp .lss 3 (.tmp 12) (.const (.int .i64 2)) 3, none⟩])) (.keep [2, 3, 11, 12, 13])) (.seq (.cond (.tmp 13) .skip (.exit 0)) (.seq (.block 1 (.seq (.seq (.reg ([⟨some 14, .move (.tmp 12), none⟩, ⟨some 15, .index 27 (.tmp 11) (.tmp 12), none⟩, ⟨some 5, .alloc 26, none⟩, ⟨some 4, .assign (.tmp 14), none⟩, ⟨none, .store 26 (.tmp 5) (.tmp 15), none⟩])) (.keep [2, 3, 4, 5, 11, 12])) (.seq (.seq (.reg ([⟨some 17, .fieldAddr 26 (.tmp 5) 0, none⟩, ⟨some 18, .load 24 (.tmp 17), none⟩, ⟨some 19, .fieldAddr 26 (.tmp 5) 1, none⟩, ⟨some 20, .load 24 (.tmp 19), none⟩, ⟨some 21, .buildSlice 138 2 #[(0, (.tmp 18)), (1, (.tmp 20))], none⟩, ⟨some 22, .call { callee := .value (.func 72), args := #[(.tmp 21)], argTypes := #[138] }, none⟩, ⟨some 23, .call { callee := .value (.func 46), args := #[(.tmp 22)], argTypes := #[24] }, none⟩, ⟨some 16, .move (.tmp 23), none⟩, ⟨some 24, .extract (.tmp 16) 0, none⟩, ⟨some 25, .extract (.tmp 16) 1, none⟩, ⟨some 26, .extract (.tmp 16) 2, none⟩, ⟨some 6, .assign (.tmp 24), none⟩, ⟨some 7, .assign (.tmp 25), none⟩, ⟨some 8, .assign (.tmp 26), none⟩])) (.keep [2, 3, 4, 6, 11, 12])) (.seq (.seq (.draw ([⟨⟨some 27, .move (.tmp 6), none⟩, []⟩, ⟨⟨some 28, .call { callee := .builtin .len, args := #[(.tmp 27)], argTypes := #[96] }, none⟩, []⟩, ⟨⟨some 29, .binOp .gtr 3 (.tmp 28) (.const (.int .i64 0)) 3, none⟩, []⟩, ⟨⟨some 30, .move (.tmp 29), none⟩, []⟩, ⟨⟨some 31, .move (.tmp 6), some (30, true)⟩, []⟩, ⟨⟨some 32, .indexAddr 96 (.tmp 31) (.const (.int .i64 0)), some (30, true)⟩, []⟩, ⟨⟨some 33, .fieldAddr 47 (.tmp 32) 0, some (30, true)⟩, []⟩, ⟨⟨some 34, .load 3 (.tmp 33), some (30, true)⟩, []⟩, ⟨⟨some 35, .binOp .rem 3 (.tmp 34) (.const (.int .i64 2)) 3, some (30, true)⟩, []⟩, ⟨⟨some 36, .move (.tmp 4), some (30, true)⟩, [4, 5, 6, 7, 8]⟩, ⟨⟨some 37, .binOp .eql 3 (.tmp 35) (.tmp 36) 3, some (30, true)⟩, []⟩, ⟨⟨some 38, .pick (.tmp 30) (.tmp 37) (.const (.bool false)), none⟩, []⟩, ⟨⟨some 39, .move (.tmp 38), none⟩, []⟩, ⟨⟨some 40, .move (.tmp 6), some (39, true)⟩, []⟩, ⟨⟨some 41, .indexAddr 96 (.tmp 40) (.const (.int .i64 0)), some (39, true)⟩, []⟩, ⟨⟨some 42, .fieldAddr 47 (.tmp 41) 0, some (39, true)⟩, []⟩, ⟨⟨some 43, .load 3 (.tmp 42), some (39, true)⟩, []⟩, ⟨⟨some 44, .fieldAddr 47 (.tmp 3) 0, some (39, true)⟩, [13, 14, 15, 16]⟩, ⟨⟨some 45, .load 3 (.tmp 44), some (39, true)⟩, [13, 14, 15, 16]⟩, ⟨⟨some 46, .binOp .gtr 3 (.tmp 43) (.tmp 45) 3, some (39, true)⟩, []⟩, ⟨⟨some 47, .pick (.tmp 39) (.tmp 46) (.const (.bool false)), none⟩, []⟩])) (.keep [2, 3, 6, 11, 12, 47])) (.cond (.tmp 47) (.seq (.reg ([⟨some 48, .move (.tmp 6), none⟩, ⟨some 49, .indexAddr 96 (.tmp 48) (.const (.int .i64 0)), none⟩, ⟨some 50, .load 47 (.tmp 49), none⟩, ⟨none, .store 47 (.tmp 3) (.tmp 50), none⟩])) (.keep [2, 3, 11, 12])) .skip))))) (.seq (.reg ([⟨some 51, .binOp .add 3 (.tmp 12) (.const (.int .i64 1)) 3, none⟩, ⟨some 12, .move (.tmp 51), none⟩])) (.keep [2, 3, 11, 12])))))))) (.seq (.seq (.reg ([⟨some 52, .load 47 (.tmp 3), none⟩, ⟨none, .store 47 (.tmp 2) (.tmp 52), none⟩])) (.keep [2])) .ret))))
attribute [go_sem ↓] c_slots_newest
def h_slots_newest : List Hint := [⟨[], [1, 2], []⟩, ⟨[], [1, 2, 3], []⟩, ⟨[], [2, 3, 11, 12], []⟩, ⟨[], [2, 3, 11, 12], []⟩, ⟨[], [2, 3, 11, 12, 13], []⟩, ⟨[], [2, 3, 4, 5, 11, 12], []⟩, ⟨[], [2, 3, 4, 6, 11, 12], []⟩, ⟨[], [2, 3, 6, 11, 12, 47], []⟩, ⟨[], [2, 3, 11, 12], []⟩, ⟨[], [2, 3, 11, 12], []⟩, ⟨[], [2], []⟩]
theorem b_slots_newest : Body Try.prog 44 [] h_slots_newest c_slots_newest 53 [.cell 2 47] := body_of Try.func44 (by kernel_rfl) (by kernel_rfl) (by kernel_rfl) (by kernel_rfl)
def r_slots_Half_0 : List I := [⟨some 13, .move (.tmp 16), none⟩, ⟨some 17, .extract (.tmp 13) 0, none⟩, ⟨some 18, .extract (.tmp 13) 1, none⟩, ⟨some 10, .assign (.tmp 17), none⟩, ⟨some 11, .assign (.tmp 18), none⟩]
@[go_sem ↓] def uq291 := @unI _ _ r_slots_Half_0.eq_1
def kc227 : C := (.seq (.seq (.reg ([⟨some 21, .build 29 #[], none⟩, ⟨some 22, .move (.tmp 11), none⟩, ⟨none, .store 29 (.tmp 8) (.tmp 21), none⟩, ⟨some 9, .assign (.tmp 22), none⟩])) (.keep [8, 9])) .ret)
@[go_sem ↓] def uq292 := @unC _ _ kc227.eq_1
def kc228 : C := (.cond (.tmp 20) kc227 .skip)
@[go_sem ↓] def uq293 := @unC _ _ kc228.eq_1
def kc229 : C := (.seq (.seq (.reg ([⟨some 29, .build 29 #[], none⟩, ⟨none, .store 29 (.tmp 8) (.tmp 29), none⟩, ⟨some 9, .assign (.const (.int .i64 2)), none⟩])) (.keep [8, 9])) .ret)
@[go_sem ↓] def uq294 := @unC _ _ kc229.eq_1
def kc230 : C := (.cond (.tmp 28) kc229 .skip)
@[go_sem ↓] def uq295 := @unC _ _ kc230.eq_1
def r_slots_Half_5 : List I := [⟨none, .store 29 (.tmp 4) (.tmp 33), none⟩]
@[go_sem ↓] def uq296 := @unI _ _ r_slots_Half_5.eq_1
def r_slots_Half_6 : List I := [⟨some 37, .move (.tmp 44), none⟩, ⟨some 45, .extract (.tmp 37) 0, none⟩, ⟨some 46, .extract (.tmp 37) 1, none⟩, ⟨some 47, .fieldAddr 29 (.tmp 4) 0, none⟩, ⟨some 48, .indexAddr 27 (.tmp 47) (.tmp 38), none⟩, ⟨none, .store 26 (.tmp 48) (.tmp 45), none⟩, ⟨some 11, .assign (.tmp 46), none⟩]
@[go_sem ↓] def uq297 := @unI _ _ r_slots_Half_6.eq_1
def kc231 : C := (.seq (.seq (.reg ([⟨some 51, .build 29 #[], none⟩, ⟨some 52, .move (.tmp 11), none⟩, ⟨none, .store 29 (.tmp 8) (.tmp 51), none⟩, ⟨some 9, .assign (.tmp 52), none⟩])) (.keep [8, 9])) .ret)
@[go_sem ↓] def uq298 := @unC _ _ kc231.eq_1
def kc232 : C := (.cond (.tmp 50) kc231 .skip)
@[go_sem ↓] def uq299 := @unC _ _ kc232.eq_1
def kc233 : C := (.seq (.seq (.reg ([⟨some 49, .move (.tmp 11), none⟩, ⟨some 50, .binOp .neq 35 (.tmp 49) (.const (.int .i64 0)) 35, none⟩])) (.keep [4, 8, 11, 12, 50])) kc232)
@[go_sem ↓] def uq300 := @unC _ _ kc233.eq_1
def r_slots_Half_10 : List I := [⟨some 53, .move (.tmp 61), none⟩, ⟨some 62, .extract (.tmp 53) 0, none⟩, ⟨some 63, .extract (.tmp 53) 1, none⟩, ⟨some 64, .fieldAddr 29 (.tmp 4) 0, none⟩, ⟨some 65, .indexAddr 27 (.tmp 64) (.tmp 55), none⟩, ⟨none, .store 26 (.tmp 65) (.tmp 62), none⟩, ⟨some 11, .assign (.tmp 63), none⟩]
@[go_sem ↓] def uq301 := @unI _ _ r_slots_Half_10.eq_1
def kc234 : C := (.seq (.seq (.reg ([⟨some 66, .load 29 (.tmp 4), none⟩, ⟨some 67, .move (.tmp 11), none⟩, ⟨none, .store 29 (.tmp 8) (.tmp 66), none⟩, ⟨some 9, .assign (.tmp 67), none⟩])) (.keep [8, 9])) .ret)
@[go_sem ↓] def uq302 := @unC _ _ kc234.eq_1
def kc235 : C := (.seq (.seq (.reg (⟨some 54, .move (.tmp 12), none⟩ :: ⟨some 55, .binOp .sub 3 (.const (.int .i64 1)) (.tmp 54) 3, none⟩ :: ⟨some 56, .move (.tmp 12), none⟩ :: ⟨some 57, .binOp .sub 3 (.const (.int .i64 1)) (.tmp 56) 3, none⟩ :: ⟨some 58, .fieldAddr 29 (.tmp 4) 0, none⟩ :: ⟨some 59, .indexAddr 27 (.tmp 58) (.tmp 57), none⟩ :: ⟨some 60, .load 26 (.tmp 59), none⟩ :: ⟨some 61, .call { callee := .value (.func 52), args := #[(.tmp 60), (.const (.int .i64 0))], argTypes := #[26, 3] }, none⟩ :: r_slots_Half_10)) (.keep [4, 8, 11])) kc234)
@[go_sem ↓] def uq303 := @unC _ _ kc235.eq_1
def kc236 : C := (.seq (.seq (.seq (.reg (⟨some 38, .move (.tmp 12), none⟩ :: ⟨some 39, .move (.tmp 12), none⟩ :: ⟨some 40, .fieldAddr 29 (.tmp 4) 0, none⟩ :: ⟨some 41, .indexAddr 27 (.tmp 40) (.tmp 39), none⟩ :: ⟨some 42, .load 26 (.tmp 41), none⟩ :: ⟨some 43, .move (.tmp 3), none⟩ :: ⟨some 44, .call { callee := .value (.func 52), args := #[(.tmp 42), (.tmp 43)], argTypes := #[26, 3] }, none⟩ :: r_slots_Half_6)) (.keep [4, 8, 11, 12])) kc233) kc235)
@[go_sem ↓] def uq304 := @unC _ _ kc236.eq_1
def kc237 : C := (.seq (.seq (.reg ([⟨some 34, .fieldAddr 29 (.tmp 4) 1, none⟩, ⟨some 35, .load 3 (.tmp 34), none⟩, ⟨some 36, .binOp .rem 3 (.tmp 35) (.const (.int .i64 2)) 3, none⟩, ⟨some 12, .assign (.tmp 36), none⟩])) (.keep [3, 4, 8, 12])) kc236)
@[go_sem ↓] def uq305 := @unC _ _ kc237.eq_1
def kc238 : C := (.seq (.seq (.reg (⟨some 30, .load 29 (.tmp 4), none⟩ :: ⟨some 31, .move (.tmp 10), none⟩ :: ⟨some 32, .move (.tmp 2), none⟩ :: ⟨some 33, .call { callee := .value (.func 67), args := #[(.tmp 30), (.tmp 31), (.tmp 32)], argTypes := #[29, 24, 3] }, none⟩ :: r_slots_Half_5)) (.keep [3, 4, 8])) kc237)
@[go_sem ↓] def uq306 := @unC _ _ kc238.eq_1
def kc239 : C := (.seq (.seq (.seq (.reg ([⟨some 23, .move (.tmp 2), none⟩, ⟨some 24, .binOp .lss 3 (.tmp 23) (.const (.int .i64 0)) 3, none⟩, ⟨some 25, .move (.tmp 24), none⟩, ⟨some 26, .move (.tmp 2), some (25, false)⟩, ⟨some 27, .binOp .gtr 3 (.tmp 26) (.const (.int .i64 3)) 3, some (25, false)⟩, ⟨some 28, .pick (.tmp 25) (.const (.bool true)) (.tmp 27), none⟩])) (.keep [2, 3, 4, 8, 10, 28])) kc230) kc238)
@[go_sem ↓] def uq307 := @unC _ _ kc239.eq_1
def kc240 : C := (.seq (.seq (.seq (.reg ([⟨some 19, .move (.tmp 11), none⟩, ⟨some 20, .binOp .neq 35 (.tmp 19) (.const (.int .i64 0)) 35, none⟩])) (.keep [2, 3, 4, 8, 10, 11, 20])) kc228) kc239)
@[go_sem ↓] def uq308 := @unC _ _ kc240.eq_1
def kc241 : C := (.seq (.seq (.reg (⟨some 14, .load 29 (.tmp 4), none⟩ :: ⟨some 15, .move (.tmp 1), none⟩ :: ⟨some 16, .call { callee := .value (.func 66), args := #[(.tmp 14), (.tmp 15)], argTypes := #[29, 24] }, none⟩ :: r_slots_Half_0)) (.keep [2, 3, 4, 8, 10, 11])) kc240)
@[go_sem ↓] def uq309 := @unC _ _ kc241.eq_1
def c_slots_Half : C := (.seq (.seq (.reg ([⟨some 4, .box 29 (.tmp 0), none⟩, ⟨some 8, .alloc 29, none⟩, ⟨some 9, .assign (.const (.int .i64 0)), none⟩])) (.keep [1, 2, 3, 4, 8])) kc241)
attribute [go_sem ↓] c_slots_Half
def h_slots_Half : List Hint := [⟨[], [1, 2, 3, 4, 8], []⟩, ⟨[], [2, 3, 4, 8, 10, 11], []⟩, ⟨[], [2, 3, 4, 8, 10, 11, 20], []⟩, ⟨[], [8, 9], []⟩, ⟨[], [2, 3, 4, 8, 10, 28], []⟩, ⟨[], [8, 9], []⟩, ⟨[], [3, 4, 8], []⟩, ⟨[], [3, 4, 8, 12], []⟩, ⟨[], [4, 8, 11, 12], []⟩, ⟨[], [4, 8, 11, 12, 50], []⟩, ⟨[], [8, 9], []⟩, ⟨[], [4, 8, 11], []⟩, ⟨[], [8, 9], []⟩]
theorem b_slots_Half : Body Try.prog 51 [] h_slots_Half c_slots_Half 68 [.cell 8 29, .tmp 9] := body_of Try.func51 (by kernel_rfl) (by kernel_rfl) (by kernel_rfl) (by kernel_rfl)
def c_slots_Open : C := (.seq (.seq (.reg ([⟨some 1, .box 29 (.tmp 0), none⟩, ⟨some 2, .alloc 29, none⟩, ⟨some 3, .assign (.const (.int .i64 0)), none⟩])) (.keep [1, 2])) (.seq (.seq (.seq (.reg ([⟨some 6, .fieldAddr 29 (.tmp 1) 0, none⟩, ⟨some 7, .load 27 (.tmp 6), none⟩, ⟨some 8, .move (.const (.int .i64 0)), none⟩])) (.keep [1, 2, 7, 8])) (.block 0 (.loop [] [1, 2, 7, 8] (.seq (.seq (.reg ([⟨some 9, .binOp .lss 3 (.tmp 8) (.const (.int .i64 2)) 3, none⟩])) (.keep [1, 2, 7, 8, 9])) (.seq (.cond (.tmp 9) .skip (.exit 0)) (.seq (.block 1 (.seq (.seq (.reg ([⟨some 10, .move (.tmp 8), none⟩, ⟨some 11, .index 27 (.tmp 7) (.tmp 8), none⟩, ⟨some 5, .alloc 26, none⟩, ⟨some 4, .assign (.tmp 10), none⟩, ⟨none, .store 26 (.tmp 5) (.tmp 11), none⟩])) (.keep [1, 2, 4, 5, 7, 8])) (.seq (.seq (.seq (.reg ([⟨some 12, .load 26 (.tmp 5), none⟩, ⟨some 13, .call { callee := .value (.func 39), args := #[(.tmp 12)], argTypes := #[26] }, none⟩, ⟨some 14, .binOp .neq 35 (.tmp 13) (.const (.int .i64 0)) 35, none⟩])) (.keep [1, 2, 4, 5, 7, 8, 14])) (.cond (.tmp 14) (.seq (.seq (.reg ([⟨some 15, .build 29 #[], none⟩, ⟨none, .store 29 (.tmp 2) (.tmp 15), none⟩, ⟨some 3, .assign (.const (.int .i64 8)), none⟩])) (.keep [2, 3])) .ret) .skip)) (.seq (.seq (.seq (.reg ([⟨some 16, .fieldAddr 26 (.tmp 5) 3, none⟩, ⟨some 17, .load 4 (.tmp 16), none⟩])) (.keep [1, 2, 4, 5, 7, 8, 17])) (.cond (.tmp 17) (.seq (.reg ([⟨some 19, .load 26 (.tmp 5), none⟩, ⟨some 20, .call { callee := .value (.func 59), args := #[(.tmp 19)], argTypes := #[26] }, none⟩, ⟨some 18, .move (.tmp 20), none⟩, ⟨some 21, .extract (.tmp 18) 0, none⟩, ⟨some 22, .extract (.tmp 18) 1, none⟩, ⟨none, .store 26 (.tmp 5) (.tmp 21), none⟩])) (.keep [1, 2, 4, 5, 7, 8])) .skip)) (.seq (.reg ([⟨some 24, .move (.tmp 4), none⟩, ⟨some 25, .load 26 (.tmp 5), none⟩, ⟨some 26, .call { callee := .value (.func 62), args := #[(.tmp 25)], argTypes := #[26] }, none⟩, ⟨some 23, .move (.tmp 26), none⟩, ⟨some 27, .extract (.tmp 23) 0, none⟩, ⟨some 28, .extract (.tmp 23) 1, none⟩, ⟨some 29, .fieldAddr 29 (.tmp 1) 0, none⟩, ⟨some 30, .indexAddr 27 (.tmp 29) (.tmp 24), none⟩, ⟨none, .store 26 (.tmp 30) (.tmp 27), none⟩])) (.keep [1, 2, 7, 8])))))) (.seq (.reg ([⟨some 31, .binOp .add 3 (.tmp 8) (.const (.int .i64 1)) 3, none⟩, ⟨some 8, .move (.tmp 31), none⟩])) (.keep [1, 2, 7, 8])))))))) (.seq (.seq (.reg ([⟨some 32, .load 29 (.tmp 1), none⟩, ⟨some 33, .call { callee := .value (.func 44), args := #[(.tmp 32)], argTypes := #[29] }, none⟩, ⟨some 34, .field 47 (.tmp 33) 0, none⟩, ⟨some 35, .call { callee := .builtin .max, args := #[(.const (.int .i64 0)), (.tmp 34)], argTypes := #[3, 3] }, none⟩, ⟨some 36, .binOp .add 3 (.tmp 35) (.const (.int .i64 1)) 3, none⟩, ⟨some 37, .fieldAddr 29 (.tmp 1) 1, none⟩, ⟨none, .store 3 (.tmp 37) (.tmp 36), none⟩])) (.keep [1, 2])) (.seq (.seq (.reg ([⟨some 38, .load 29 (.tmp 1), none⟩, ⟨none, .store 29 (.tmp 2) (.tmp 38), none⟩, ⟨some 3, .assign (.const (.int .i64 0)), none⟩])) (.keep [2, 3])) .ret))))
attribute [go_sem ↓] c_slots_Open
def h_slots_Open : List Hint := [⟨[], [1, 2], []⟩, ⟨[], [1, 2, 7, 8], []⟩, ⟨[], [1, 2, 7, 8], []⟩, ⟨[], [1, 2, 7, 8, 9], []⟩, ⟨[], [1, 2, 4, 5, 7, 8], []⟩, ⟨[], [1, 2, 4, 5, 7, 8, 14], []⟩, ⟨[], [2, 3], []⟩, ⟨[], [1, 2, 4, 5, 7, 8, 17], []⟩, ⟨[], [1, 2, 4, 5, 7, 8], []⟩, ⟨[], [1, 2, 7, 8], []⟩, ⟨[], [1, 2, 7, 8], []⟩, ⟨[], [1, 2], []⟩, ⟨[], [2, 3], []⟩]
theorem b_slots_Open : Body Try.prog 55 [] h_slots_Open c_slots_Open 39 [.cell 2 29, .tmp 3] := body_of Try.func55 (by kernel_rfl) (by kernel_rfl) (by kernel_rfl) (by kernel_rfl)
def c_slots_record : C := (.seq (.seq (.reg ([⟨some 2, .box 29 (.tmp 0), none⟩, ⟨some 4, .assign (.const (.slice none 0 0)), none⟩, ⟨some 5, .assign (.const (.int .i64 0)), none⟩])) (.keep [1, 2])) (.seq (.seq (.seq (.reg ([⟨some 9, .load 29 (.tmp 2), none⟩, ⟨some 10, .call { callee := .value (.func 43), args := #[(.tmp 9)], argTypes := #[29] }, none⟩, ⟨some 6, .assign (.tmp 10), none⟩])) (.keep [1, 2, 6])) (.seq (.seq (.reg ([⟨some 11, .move (.tmp 6), none⟩, ⟨some 12, .binOp .neq 35 (.tmp 11) (.const (.int .i64 0)) 35, none⟩])) (.keep [1, 2, 6, 12])) (.cond (.tmp 12) (.seq (.seq (.reg ([⟨some 13, .move (.tmp 6), none⟩, ⟨some 4, .assign (.const (.slice none 0 0)), none⟩, ⟨some 5, .assign (.tmp 13), none⟩])) (.keep [4, 5])) .ret) .skip))) (.seq (.seq (.seq (.reg ([⟨some 14, .move (.tmp 1), none⟩, ⟨some 15, .call { callee := .builtin .len, args := #[(.tmp 14)], argTypes := #[24] }, none⟩, ⟨some 16, .binOp .gtr 3 (.tmp 15) (.const (.int .i64 1000)) 3, none⟩])) (.keep [1, 2, 16])) (.cond (.tmp 16) (.seq (.seq (.reg ([⟨some 4, .assign (.const (.slice none 0 0)), none⟩, ⟨some 5, .assign (.const (.int .i64 4)), none⟩])) (.keep [4, 5])) .ret) .skip)) (.seq (.seq (.seq (.reg ([⟨some 17, .fieldAddr 29 (.tmp 2) 1, none⟩, ⟨some 18, .load 3 (.tmp 17), none⟩, ⟨some 19, .binOp .gtr 3 (.tmp 18) (.const (.int .i64 1000000000)) 3, none⟩])) (.keep [1, 2, 19])) (.cond (.tmp 19) (.seq (.seq (.reg ([⟨some 4, .assign (.const (.slice none 0 0)), none⟩, ⟨some 5, .assign (.const (.int .i64 2)), none⟩])) (.keep [4, 5])) .ret) .skip)) (.seq (.seq (.reg ([⟨some 21, .fieldAddr 29 (.tmp 2) 1, none⟩, ⟨some 22, .load 3 (.tmp 21), none⟩, ⟨some 23, .move (.tmp 1), none⟩, ⟨some 24, .build 47 #[(0, (.tmp 22)), (1, (.tmp 23))], none⟩, ⟨some 25, .call { callee := .value (.func 11), args := #[(.tmp 24)], argTypes := #[47] }, none⟩, ⟨some 20, .move (.tmp 25), none⟩, ⟨some 26, .extract (.tmp 20) 0, none⟩, ⟨some 27, .extract (.tmp 20) 1, none⟩, ⟨some 7, .assign (.tmp 26), none⟩, ⟨some 8, .assign (.tmp 27), none⟩])) (.keep [2, 7])) (.seq (.seq (.seq (.reg ([⟨some 28, .move (.tmp 7), none⟩, ⟨some 29, .call { callee := .builtin .len, args := #[(.tmp 28)], argTypes := #[24] }, none⟩, ⟨some 30, .fieldAddr 29 (.tmp 2) 1, none⟩, ⟨some 31, .load 3 (.tmp 30), none⟩, ⟨some 32, .binOp .rem 3 (.tmp 31) (.const (.int .i64 2)) 3, none⟩, ⟨some 33, .fieldAddr 29 (.tmp 2) 0, none⟩, ⟨some 34, .indexAddr 27 (.tmp 33) (.tmp 32), none⟩, ⟨some 35, .fieldAddr 26 (.tmp 34) 2, none⟩, ⟨some 36, .load 3 (.tmp 35), none⟩, ⟨some 37, .binOp .gtr 3 (.tmp 29) (.tmp 36) 3, none⟩])) (.keep [7, 37])) (.cond (.tmp 37) (.seq (.seq (.reg ([⟨some 4, .assign (.const (.slice none 0 0)), none⟩, ⟨some 5, .assign (.const (.int .i64 18)), none⟩])) (.keep [4, 5])) .ret) .skip)) (.seq (.seq (.reg ([⟨some 38, .move (.tmp 7), none⟩, ⟨some 4, .assign (.tmp 38), none⟩, ⟨some 5, .assign (.const (.int .i64 0)), none⟩])) (.keep [4, 5])) .ret)))))))
attribute [go_sem ↓] c_slots_record
def h_slots_record : List Hint := [⟨[], [1, 2], []⟩, ⟨[], [1, 2, 6], []⟩, ⟨[], [1, 2, 6, 12], []⟩, ⟨[], [4, 5], []⟩, ⟨[], [1, 2, 16], []⟩, ⟨[], [4, 5], []⟩, ⟨[], [1, 2, 19], []⟩, ⟨[], [4, 5], []⟩, ⟨[], [2, 7], []⟩, ⟨[], [7, 37], []⟩, ⟨[], [4, 5], []⟩, ⟨[], [4, 5], []⟩]
theorem b_slots_record : Body Try.prog 66 [] h_slots_record c_slots_record 39 [.tmp 4, .tmp 5] := body_of Try.func66 (by kernel_rfl) (by kernel_rfl) (by kernel_rfl) (by kernel_rfl)
def c_slots_stepped : C := (.seq (.seq (.reg ([⟨some 3, .box 29 (.tmp 0), none⟩, ⟨some 6, .alloc 29, none⟩])) (.keep [1, 2, 3, 6])) (.seq (.seq (.draw ([⟨⟨some 9, .fieldAddr 29 (.tmp 3) 0, none⟩, []⟩, ⟨⟨some 10, .indexAddr 27 (.tmp 9) (.const (.int .i64 0)), none⟩, []⟩, ⟨⟨some 11, .load 26 (.tmp 10), none⟩, []⟩, ⟨⟨some 12, .call { callee := .value (.func 82), args := #[(.tmp 11)], argTypes := #[26] }, none⟩, []⟩, ⟨⟨some 13, .fieldAddr 29 (.tmp 3) 0, none⟩, [0, 1, 2, 3]⟩, ⟨⟨some 14, .indexAddr 27 (.tmp 13) (.const (.int .i64 1)), none⟩, [0, 1, 2, 3]⟩, ⟨⟨some 15, .load 26 (.tmp 14), none⟩, [0, 1, 2, 3]⟩, ⟨⟨some 16, .call { callee := .value (.func 82), args := #[(.tmp 15)], argTypes := #[26] }, none⟩, []⟩, ⟨⟨some 17, .fieldAddr 29 (.tmp 3) 0, none⟩, [0, 1, 2, 3, 4, 5, 6, 7]⟩, ⟨⟨some 18, .indexAddr 27 (.tmp 17) (.const (.int .i64 0)), none⟩, []⟩, ⟨⟨none, .store 26 (.tmp 18) (.tmp 12), none⟩, []⟩, ⟨⟨some 19, .fieldAddr 29 (.tmp 3) 0, none⟩, [0, 1, 2, 3, 4, 5, 6, 7, 8, 9, 10]⟩, ⟨⟨some 20, .indexAddr 27 (.tmp 19) (.const (.int .i64 1)), none⟩, []⟩, ⟨⟨none, .store 26 (.tmp 20) (.tmp 16), none⟩, []⟩])) (.keep [1, 2, 3, 6])) (.seq (.seq (.reg ([⟨some 21, .fieldAddr 29 (.tmp 3) 1, none⟩, ⟨some 22, .load 3 (.tmp 21), none⟩, ⟨some 23, .binOp .rem 3 (.tmp 22) (.const (.int .i64 2)) 3, none⟩, ⟨some 24, .fieldAddr 29 (.tmp 3) 0, none⟩, ⟨some 25, .indexAddr 27 (.tmp 24) (.tmp 23), none⟩, ⟨some 7, .assign (.tmp 25), none⟩])) (.keep [1, 2, 3, 6, 7])) (.seq (.seq (.seq (.reg ([⟨some 26, .move (.tmp 2), none⟩, ⟨some 27, .move (.const (.int .i64 0)), none⟩])) (.keep [1, 3, 6, 7, 26, 27])) (.block 0 (.loop [] [1, 3, 6, 7, 26, 27] (.seq (.seq (.reg ([⟨some 28, .binOp .lss 3 (.tmp 27) (.tmp 26) 3, none⟩])) (.keep [1, 3, 6, 7, 26, 27, 28])) (.seq (.cond (.tmp 28) .skip (.exit 0)) (.seq (.block 1 (.seq (.seq (.reg ([⟨some 29, .move (.tmp 27), none⟩, ⟨some 8, .assign (.tmp 29), none⟩])) (.keep [1, 3, 6, 7, 8, 26, 27])) (.seq (.seq (.reg ([⟨some 30, .move (.tmp 8), none⟩])) (.keep [1, 3, 6, 7, 26, 27, 30])) (.block 2 (.seq (.seq (.reg ([⟨some 32, .binOp .eql 3 (.tmp 30) (.const (.int .i64 0)) 3, none⟩, ⟨some 31, .assign (.tmp 32), none⟩])) (.keep [1, 3, 6, 7, 26, 27, 30, 31])) (.cond (.tmp 31) (.seq (.reg ([⟨some 34, .move (.tmp 7), none⟩, ⟨some 35, .move (.tmp 7), none⟩, ⟨some 36, .nilCheck (.tmp 35), none⟩, ⟨some 37, .load 26 (.tmp 36), none⟩, ⟨some 38, .call { callee := .value (.func 61), args := #[(.tmp 37), (.const (.int .i64 0))], argTypes := #[26, 3] }, none⟩, ⟨some 33, .move (.tmp 38), none⟩, ⟨some 39, .extract (.tmp 33) 0, none⟩, ⟨some 40, .extract (.tmp 33) 1, none⟩, ⟨some 41, .nilCheck (.tmp 34), none⟩, ⟨none, .store 26 (.tmp 41) (.tmp 39), none⟩])) (.keep [1, 3, 6, 7, 26, 27])) (.seq (.seq (.reg ([⟨some 43, .binOp .eql 3 (.tmp 30) (.const (.int .i64 1)) 3, none⟩, ⟨some 42, .assign (.tmp 43), none⟩])) (.keep [1, 3, 6, 7, 26, 27, 30, 42])) (.cond (.tmp 42) (.seq (.reg ([⟨some 45, .move (.tmp 7), none⟩, ⟨some 46, .move (.tmp 7), none⟩, ⟨some 47, .nilCheck (.tmp 46), none⟩, ⟨some 48, .load 26 (.tmp 47), none⟩, ⟨some 49, .move (.tmp 1), none⟩, ⟨some 50, .call { callee := .value (.func 75), args := #[(.tmp 48), (.tmp 49)], argTypes := #[26, 24] }, none⟩, ⟨some 44, .move (.tmp 50), none⟩, ⟨some 51, .extract (.tmp 44) 0, none⟩, ⟨some 52, .extract (.tmp 44) 1, none⟩, ⟨some 53, .nilCheck (.tmp 45), none⟩, ⟨none, .store 26 (.tmp 53) (.tmp 51), none⟩])) (.keep [1, 3, 6, 7, 26, 27])) (.seq (.seq (.reg ([⟨some 55, .binOp .eql 3 (.tmp 30) (.const (.int .i64 2)) 3, none⟩, ⟨some 54, .assign (.tmp 55), none⟩])) (.keep [1, 3, 6, 7, 26, 27, 54])) (.cond (.tmp 54) (.seq (.reg ([⟨some 57, .move (.tmp 7), none⟩, ⟨some 58, .move (.tmp 7), none⟩, ⟨some 59, .nilCheck (.tmp 58), none⟩, ⟨some 60, .load 26 (.tmp 59), none⟩, ⟨some 61, .call { callee := .value (.func 62), args := #[(.tmp 60)], argTypes := #[26] }, none⟩, ⟨some 56, .move (.tmp 61), none⟩, ⟨some 62, .extract (.tmp 56) 0, none⟩, ⟨some 63, .extract (.tmp 56) 1, none⟩, ⟨some 64, .nilCheck (.tmp 57), none⟩, ⟨none, .store 26 (.tmp 64) (.tmp 62), none⟩])) (.keep [1, 3, 6, 7, 26, 27])) .skip)))))))))) (.seq (.reg ([⟨some 65, .binOp .add 3 (.tmp 27) (.const (.int .i64 1)) 3, none⟩, ⟨some 27, .move (.tmp 65), none⟩])) (.keep [1, 3, 6, 7, 26, 27])))))))) (.seq (.seq (.reg ([⟨some 66, .load 29 (.tmp 3), none⟩, ⟨none, .store 29 (.tmp 6) (.tmp 66), none⟩])) (.keep [6])) .ret)))))
attribute [go_sem ↓] c_slots_stepped
def h_slots_stepped : List Hint := [⟨[], [1, 2, 3, 6], []⟩, ⟨[], [1, 2, 3, 6], []⟩, ⟨[], [1, 2, 3, 6, 7], []⟩, ⟨[], [1, 3, 6, 7, 26, 27], []⟩, ⟨[], [1, 3, 6, 7, 26, 27], []⟩, ⟨[], [1, 3, 6, 7, 26, 27, 28], []⟩, ⟨[], [1, 3, 6, 7, 8, 26, 27], []⟩, ⟨[], [1, 3, 6, 7, 26, 27, 30], []⟩, ⟨[], [1, 3, 6, 7, 26, 27, 30, 31], []⟩, ⟨[], [1, 3, 6, 7, 26, 27], []⟩, ⟨[], [1, 3, 6, 7, 26, 27, 30, 42], []⟩, ⟨[], [1, 3, 6, 7, 26, 27], []⟩, ⟨[], [1, 3, 6, 7, 26, 27, 54], []⟩, ⟨[], [1, 3, 6, 7, 26, 27], []⟩, ⟨[], [1, 3, 6, 7, 26, 27], []⟩, ⟨[], [6], []⟩]
theorem b_slots_stepped : Body Try.prog 67 [] h_slots_stepped c_slots_stepped 67 [.cell 6 29] := body_of Try.func67 (by kernel_rfl) (by kernel_rfl) (by kernel_rfl) (by kernel_rfl)
def c_slots_twin : C := (.seq (.seq (.reg ([⟨some 1, .box 26 (.tmp 0), none⟩, ⟨some 2, .alloc 26, none⟩])) (.keep [1, 2])) (.seq (.seq (.reg ([⟨some 3, .fieldAddr 26 (.tmp 1) 0, none⟩, ⟨some 4, .load 24 (.tmp 3), none⟩, ⟨some 5, .call { callee := .value (.func 65), args := #[(.tmp 4)], argTypes := #[24] }, none⟩, ⟨some 6, .fieldAddr 26 (.tmp 1) 0, none⟩, ⟨none, .store 24 (.tmp 6) (.tmp 5), none⟩, ⟨some 7, .fieldAddr 26 (.tmp 1) 1, none⟩, ⟨none, .store 24 (.tmp 7) (.const (.slice none 0 0)), none⟩])) (.keep [1, 2])) (.seq (.seq (.reg ([⟨some 8, .load 26 (.tmp 1), none⟩, ⟨none, .store 26 (.tmp 2) (.tmp 8), none⟩])) (.keep [2])) .ret)))
attribute [go_sem ↓] c_slots_twin
def h_slots_twin : List Hint := [⟨[], [1, 2], []⟩, ⟨[], [1, 2], []⟩, ⟨[], [2], []⟩]
theorem b_slots_twin : Body Try.prog 82 [] h_slots_twin c_slots_twin 9 [.cell 2 26] := body_of Try.func82 (by kernel_rfl) (by kernel_rfl) (by kernel_rfl) (by kernel_rfl)
set_option maxHeartbeats 2000000
structure Slt where
  d0 : Dev
  d1 : Dev
  next : Int
  deriving DecidableEq
def Slt.cells (s : Slt) : List T := [.sl (bT s.d0.syn), .sl (bT s.d0.tail), .i .i64 s.d0.cap, .b s.d0.down, .sl (bT s.d1.syn), .sl (bT s.d1.tail), .i .i64 s.d1.cap, .b s.d1.down, .i .i64 s.next]
attribute [go_sem] Slt.cells bT_take_self
def zeroS : Slt := ⟨zeroD, zeroD, 0⟩
theorem zeroS_cells : zeroS.cells = [.sl [], .sl [], .i .i64 0, .b false, .sl [], .sl [], .i .i64 0, .b false, .i .i64 0] := rfl
def Slt.fine (s : Slt) : Prop := s.d0.small ∧ s.d1.small ∧ -9223372036854775808 ≤ s.next ∧ s.next ≤ 9223372036854775807
def Dev.calm (d : Dev) : Prop := d.check = 0 ∧ d.down = false ∧ d.tail = []
instance decCalm (d : Dev) : Decidable d.calm := by unfold Dev.calm; infer_instance
def Slt.ok (s : Slt) : Prop := s.d0.calm ∧ s.d1.calm ∧ 1 ≤ s.next ∧ s.next ≤ 1000000001
instance decSltOk (s : Slt) : Decidable s.ok := by unfold Slt.ok; infer_instance
def Slt.chk (s : Slt) : Int := if s.ok then 0 else 8
theorem chkS_ok {s : Slt} (h : s.ok) : s.chk = 0 := if_pos h
theorem chkS_bad {s : Slt} (h : ¬ s.ok) : s.chk = 8 := if_neg h
theorem dev_cases (d : Dev) : d.calm ∨ (¬ d.calm ∧ (d.check = 8 ∨ (d.check = 0 ∧ d.down = true) ∨ (d.check = 0 ∧ d.down = false ∧ 0 < d.tail.length))) := by
  by_cases h : d.calm
  · exact .inl h
  · refine .inr ⟨h, ?_⟩
    rcases d.up3 with ⟨hc, hn, hu⟩ | ⟨hc, hn, hu⟩ | ⟨hc, hn, hu⟩
    · exact .inl hc
    · exact .inr (.inl ⟨hc, hn⟩)
    · refine .inr (.inr ⟨hc, hn, ?_⟩)
      cases ht : d.tail with
      | nil => exact absurd ⟨hc, hn, ht⟩ h
      | cons x xs => simp
theorem s_slots_Check (s : Slt) (hs : s.fine) : Spec Try.prog 43 [.agg s.cells] [] (.t (.i .i64 s.chk) true) := by
  refine spec_k (hold mixed) b_slots_Check [(.i .i64 s.chk, true)] ?_
  obtain ⟨h0, h1, n0, n1⟩ := hs
  have z0 : (0 : Int) < ((([] : List (BitVec 8)).length : Nat) : Int) ↔ False := by simp
  have zl : ((([] : List (BitVec 8)).length : Nat) : Int) = 0 := rfl
  simp -implicitDefEqProofs only [go_sem, seval]
  refine loop_u 3 (ln_step (by simp -implicitDefEqProofs only [go_sem, seval]; rfl) fun R hR => ?_)
  simp -implicitDefEqProofs only [go_sem, seval, sk]
  refine call_k (s_disk_Check s.d0 h0) ?_
  rcases dev_cases s.d0 with c0 | ⟨c0, hc | ⟨hc, hd⟩ | ⟨hc, hd, ht⟩⟩
  · obtain ⟨hc, hd, ht⟩ := c0
    simp -implicitDefEqProofs only [go_sem, seval, sk, hc, hd, ht, zl]
    refine hR _ (ln_step (by simp -implicitDefEqProofs only [go_sem, seval]; rfl) fun R2 hR2 => ?_)
    simp -implicitDefEqProofs only [go_sem, seval, sk]
    refine call_k (s_disk_Check s.d1 h1) ?_
    rcases dev_cases s.d1 with c1 | ⟨c1, hc1 | ⟨hc1, hd1⟩ | ⟨hc1, hd1, ht1⟩⟩
    · obtain ⟨hc1, hd1, ht1⟩ := c1
      simp -implicitDefEqProofs only [go_sem, seval, sk, hc1, hd1, ht1, zl]
      refine hR2 _ (ln_step (by simp -implicitDefEqProofs only [go_sem, seval]; rfl) fun R3 hR3 => ?_)
      by_cases q1 : s.next < 1
      · rw [chkS_bad fun h => by have := h.2.2.1; omega]
        simp -implicitDefEqProofs only [go_sem, seval, sk, q1]
      by_cases q2 : 1000000001 < s.next
      · rw [chkS_bad fun h => by have := h.2.2.2; omega]
        simp -implicitDefEqProofs only [go_sem, seval, sk, q1, q2]
      · rw [chkS_ok ⟨⟨hc, hd, ht⟩, ⟨hc1, hd1, ht1⟩, by omega, by omega⟩]
        simp -implicitDefEqProofs only [go_sem, seval, sk, q1, q2]
    · rw [chkS_bad fun h => c1 h.2.1]
      simp -implicitDefEqProofs only [go_sem, seval, sk, hc1]
    · rw [chkS_bad fun h => c1 h.2.1]
      simp -implicitDefEqProofs only [go_sem, seval, sk, hc1, hd1]
    · rw [chkS_bad fun h => c1 h.2.1]
      have ht1' : (0 < ((s.d1.tail.length : Nat) : Int)) = True := eq_true (by omega)
      simp -implicitDefEqProofs only [go_sem, seval, sk, hc1, hd1, ht1']
  · rw [chkS_bad fun h => c0 h.1]
    simp -implicitDefEqProofs only [go_sem, seval, sk, hc]
  · rw [chkS_bad fun h => c0 h.1]
    simp -implicitDefEqProofs only [go_sem, seval, sk, hc, hd]
  · rw [chkS_bad fun h => c0 h.1]
    have ht' : (0 < ((s.d0.tail.length : Nat) : Int)) = True := eq_true (by omega)
    simp -implicitDefEqProofs only [go_sem, seval, sk, hc, hd, ht']
theorem upE_calm {d : Dev} (h : d.calm) : d.upE = 0 := upE_of h.1 h.2.1
def Dev.cp (d : Dev) (i : Int) : Option Rec := match scanL d.all with
  | [] => none
  | r :: _ => if r.num.tmod 2 = i then some r else none
def newO (s : Slt) : Option Rec := match s.d0.cp 0, s.d1.cp 1 with
  | some a, some b => if a.num < b.num then some b else some a
  | some a, none => some a
  | none, o => o
def newB (s : Slt) : Rec := (newO s).getD ⟨-1, []⟩
theorem head_ok {bs : List (BitVec 8)} {r : Rec} {rs : List Rec} (h : scanL bs = r :: rs) : 0 ≤ r.num ∧ r.num ≤ 1000000000 ∧ r.data.length ≤ 1000 := by
  have := (scanL_ok bs).ok r (by rw [h]; simp)
  exact r.ok_iff.1 this
theorem cp_ok {d : Dev} {i : Int} {r : Rec} (h : d.cp i = some r) : 0 ≤ r.num ∧ r.num ≤ 1000000000 ∧ r.data.length ≤ 1000 := by
  unfold Dev.cp at h
  split at h
  · cases h
  · rename_i q qs hq
    split at h
    · cases h; exact head_ok hq
    · cases h
theorem newO_ok {s : Slt} {r : Rec} (h : newO s = some r) : 0 ≤ r.num ∧ r.num ≤ 1000000000 ∧ r.data.length ≤ 1000 := by
  unfold newO at h
  cases h0 : s.d0.cp 0 <;> cases h1 : s.d1.cp 1 <;> rw [h0, h1] at h <;> simp only at h
  · cases h
  · cases h; exact cp_ok h1
  · cases h; exact cp_ok h0
  · split at h
    · cases h; exact cp_ok h1
    · cases h; exact cp_ok h0
theorem cp_none0 {d : Dev} {i : Int} (h : scanL d.all = []) : d.cp i = none := by simp [Dev.cp, h]
theorem cp_none {d : Dev} {i : Int} {r : Rec} {rs : List Rec} (h : scanL d.all = r :: rs) (hr : ¬ r.num.tmod 2 = i) : d.cp i = none := by simp [Dev.cp, h, hr]
theorem cp_some {d : Dev} {i : Int} {r : Rec} {rs : List Rec} (h : scanL d.all = r :: rs) (hr : r.num.tmod 2 = i) : d.cp i = some r := by simp [Dev.cp, h, hr]
theorem concat_all (d : Dev) : [d.syn, d.tail].flatten = d.all := by simp [Dev.all]
theorem concat_len (d : Dev) : catL [d.syn, d.tail] = d.all.length := by simp [catL, Dev.all]
theorem s_slots_twin (d : Dev) (hd : d.small) : Spec Try.prog 82 [.agg d.cells] [] (.t (.agg (Dev.cells ⟨d.syn, [], d.cap, d.down⟩)) true) := by
  refine spec_k (hold mixed) b_slots_twin [(.agg (Dev.cells ⟨d.syn, [], d.cap, d.down⟩), true)] ?_
  have := hd.1
  simp -implicitDefEqProofs only [go_sem, seval, sk, Dev.cells]
  refine call_k (s_slices_Clone d.syn (by omega)) ?_
  simp -implicitDefEqProofs only [go_sem, seval, sk, Dev.cells]
  rfl
theorem all_small {d : Dev} (h : d.check = 0) : d.all.length ≤ 20000 := by
  have := d.ok_of h
  simp only [Dev.all, List.length_append]
  omega
theorem s_slots_newest (s : Slt) (h0 : s.d0.check = 0) (h1 : s.d1.check = 0) : Spec Try.prog 44 [.agg s.cells] [] (.t (.agg (newB s).cells) true) := by
  refine spec_k (hold mixed) b_slots_newest [(.agg (newB s).cells, true)] ?_
  have a0 := all_small h0
  have a1 := all_small h1
  have z0 : ((([] : List Rec).length : Nat) : Int) = 0 := rfl
  simp -implicitDefEqProofs only [go_sem, seval]
  refine loop_u 3 (ln_step (by simp -implicitDefEqProofs only [go_sem, seval]; rfl) fun R hR => ?_)
  simp -implicitDefEqProofs only [go_sem, seval, sk]
  refine call_k (s_slices_Concat [s.d0.syn, s.d0.tail] (by simp) (by rw [concat_len]; omega)) ?_ (by simp -implicitDefEqProofs only [go_sem, seval, catE, List.map])
  rw [concat_all, concat_len]
  simp -implicitDefEqProofs only [go_sem, seval, sk]
  refine call_k (s_frame_Scan_ok s.d0.all a0) ?_
  cases e0 : scanL s.d0.all with
  | nil =>
    have c0 := cp_none0 (i := 0) e0
    simp -implicitDefEqProofs only [go_sem, seval, sk, recsT_length, z0]
    refine hR _ (ln_step (by simp -implicitDefEqProofs only [go_sem, seval]; rfl) fun R2 hR2 => ?_)
    simp -implicitDefEqProofs only [go_sem, seval, sk]
    refine call_k (s_slices_Concat [s.d1.syn, s.d1.tail] (by simp) (by rw [concat_len]; omega)) ?_ (by simp -implicitDefEqProofs only [go_sem, seval, catE, List.map])
    rw [concat_all, concat_len]
    simp -implicitDefEqProofs only [go_sem, seval, sk]
    refine call_k (s_frame_Scan_ok s.d1.all a1) ?_
    cases e1 : scanL s.d1.all with
    | nil =>
      have c1 := cp_none0 (i := 1) e1
      simp -implicitDefEqProofs only [go_sem, seval, sk, recsT_length, z0]
      refine hR2 _ (ln_step (by simp -implicitDefEqProofs only [go_sem, seval]; rfl) fun R3 hR3 => ?_)
      simp -implicitDefEqProofs only [go_sem, seval, sk, newB, newO, c0, c1, Option.getD, Rec.cells, bT, List.map]
    | cons r1 rs1 =>
      obtain ⟨g0, g1, g2⟩ := head_ok e1
      have y1 : (0 < (((rs1.length + 1 : Nat)) : Int)) = True := eq_true (by omega)
      have y2 : (recsT (r1 :: rs1))[0]? = some r1.cells := rfl
      by_cases q1 : r1.num.tmod 2 = 1
      · have c1 := cp_some e1 q1
        have y3 : (-1 < r1.num) = True := eq_true (by omega)
        simp -implicitDefEqProofs only [go_sem, seval, sk, recsT_length, y1, y2, Rec.cells, q1, y3]
        refine hR2 _ (ln_step (by simp -implicitDefEqProofs only [go_sem, seval]; rfl) fun R3 hR3 => ?_)
        simp -implicitDefEqProofs only [go_sem, seval, sk, newB, newO, c0, c1, Option.getD, Rec.cells]
      · have c1 := cp_none e1 q1
        have q1' : (r1.num.tmod 2 == 1) = false := by simp [q1]
        simp -implicitDefEqProofs only [go_sem, seval, sk, recsT_length, y1, y2, Rec.cells, q1']
        refine hR2 _ (ln_step (by simp -implicitDefEqProofs only [go_sem, seval]; rfl) fun R3 hR3 => ?_)
        simp -implicitDefEqProofs only [go_sem, seval, sk, newB, newO, c0, c1, Option.getD, Rec.cells, bT, List.map]
  | cons r0 rs0 =>
    obtain ⟨p0, p1, p2⟩ := head_ok e0
    have z1 : (0 < (((rs0.length + 1 : Nat)) : Int)) = True := eq_true (by omega)
    have z2 : (recsT (r0 :: rs0))[0]? = some r0.cells := rfl
    have z3 : (-1 < r0.num) = True := eq_true (by omega)
    by_cases q0 : r0.num.tmod 2 = 0
    · have c0 := cp_some e0 q0
      simp -implicitDefEqProofs only [go_sem, seval, sk, recsT_length, z1, z2, Rec.cells, q0, z3]
      refine hR _ (ln_step (by simp -implicitDefEqProofs only [go_sem, seval]; rfl) fun R2 hR2 => ?_)
      simp -implicitDefEqProofs only [go_sem, seval, sk]
      refine call_k (s_slices_Concat [s.d1.syn, s.d1.tail] (by simp) (by rw [concat_len]; omega)) ?_ (by simp -implicitDefEqProofs only [go_sem, seval, catE, List.map])
      rw [concat_all, concat_len]
      simp -implicitDefEqProofs only [go_sem, seval, sk]
      refine call_k (s_frame_Scan_ok s.d1.all a1) ?_
      cases e1 : scanL s.d1.all with
      | nil =>
        have c1 := cp_none0 (i := 1) e1
        simp -implicitDefEqProofs only [go_sem, seval, sk, recsT_length, z0]
        refine hR2 _ (ln_step (by simp -implicitDefEqProofs only [go_sem, seval]; rfl) fun R3 hR3 => ?_)
        simp -implicitDefEqProofs only [go_sem, seval, sk, newB, newO, c0, c1, Option.getD, Rec.cells, bT, List.map]
      | cons r1 rs1 =>
        obtain ⟨g0, g1, g2⟩ := head_ok e1
        have y1 : (0 < (((rs1.length + 1 : Nat)) : Int)) = True := eq_true (by omega)
        have y2 : (recsT (r1 :: rs1))[0]? = some r1.cells := rfl
        by_cases q1 : r1.num.tmod 2 = 1
        · have c1 := cp_some e1 q1
          by_cases y3 : r0.num < r1.num
          · simp -implicitDefEqProofs only [go_sem, seval, sk, recsT_length, y1, y2, Rec.cells, q1, y3]
            refine hR2 _ (ln_step (by simp -implicitDefEqProofs only [go_sem, seval]; rfl) fun R3 hR3 => ?_)
            simp -implicitDefEqProofs only [go_sem, seval, sk, newB, newO, c0, c1, Option.getD, Rec.cells, y3]
          · simp -implicitDefEqProofs only [go_sem, seval, sk, recsT_length, y1, y2, Rec.cells, q1, y3]
            refine hR2 _ (ln_step (by simp -implicitDefEqProofs only [go_sem, seval]; rfl) fun R3 hR3 => ?_)
            simp -implicitDefEqProofs only [go_sem, seval, sk, newB, newO, c0, c1, Option.getD, Rec.cells, y3]
        · have c1 := cp_none e1 q1
          have q1' : (r1.num.tmod 2 == 1) = false := by simp [q1]
          simp -implicitDefEqProofs only [go_sem, seval, sk, recsT_length, y1, y2, Rec.cells, q1']
          refine hR2 _ (ln_step (by simp -implicitDefEqProofs only [go_sem, seval]; rfl) fun R3 hR3 => ?_)
          simp -implicitDefEqProofs only [go_sem, seval, sk, newB, newO, c0, c1, Option.getD, Rec.cells, bT, List.map]
    · have c0 := cp_none e0 q0
      have q0' : (r0.num.tmod 2 == 0) = false := by simp [q0]
      simp -implicitDefEqProofs only [go_sem, seval, sk, recsT_length, z1, z2, Rec.cells, q0']
      refine hR _ (ln_step (by simp -implicitDefEqProofs only [go_sem, seval]; rfl) fun R2 hR2 => ?_)
      simp -implicitDefEqProofs only [go_sem, seval, sk]
      refine call_k (s_slices_Concat [s.d1.syn, s.d1.tail] (by simp) (by rw [concat_len]; omega)) ?_ (by simp -implicitDefEqProofs only [go_sem, seval, catE, List.map])
      rw [concat_all, concat_len]
      simp -implicitDefEqProofs only [go_sem, seval, sk]
      refine call_k (s_frame_Scan_ok s.d1.all a1) ?_
      cases e1 : scanL s.d1.all with
      | nil =>
        have c1 := cp_none0 (i := 1) e1
        simp -implicitDefEqProofs only [go_sem, seval, sk, recsT_length, z0]
        refine hR2 _ (ln_step (by simp -implicitDefEqProofs only [go_sem, seval]; rfl) fun R3 hR3 => ?_)
        simp -implicitDefEqProofs only [go_sem, seval, sk, newB, newO, c0, c1, Option.getD, Rec.cells, bT, List.map]
      | cons r1 rs1 =>
        obtain ⟨g0, g1, g2⟩ := head_ok e1
        have y1 : (0 < (((rs1.length + 1 : Nat)) : Int)) = True := eq_true (by omega)
        have y2 : (recsT (r1 :: rs1))[0]? = some r1.cells := rfl
        by_cases q1 : r1.num.tmod 2 = 1
        · have c1 := cp_some e1 q1
          have y3 : (-1 < r1.num) = True := eq_true (by omega)
          simp -implicitDefEqProofs only [go_sem, seval, sk, recsT_length, y1, y2, Rec.cells, q1, y3]
          refine hR2 _ (ln_step (by simp -implicitDefEqProofs only [go_sem, seval]; rfl) fun R3 hR3 => ?_)
          simp -implicitDefEqProofs only [go_sem, seval, sk, newB, newO, c0, c1, Option.getD, Rec.cells]
        · have c1 := cp_none e1 q1
          have q1' : (r1.num.tmod 2 == 1) = false := by simp [q1]
          simp -implicitDefEqProofs only [go_sem, seval, sk, recsT_length, y1, y2, Rec.cells, q1']
          refine hR2 _ (ln_step (by simp -implicitDefEqProofs only [go_sem, seval]; rfl) fun R3 hR3 => ?_)
          simp -implicitDefEqProofs only [go_sem, seval, sk, newB, newO, c0, c1, Option.getD, Rec.cells, bT, List.map]
theorem par2 {n : Int} (h : 1 ≤ n) : n.tmod 2 = 0 ∨ n.tmod 2 = 1 := by
  have : n.tmod 2 = n % 2 := Int.tmod_eq_emod_of_nonneg (by omega)
  omega
def Slt.dev (s : Slt) : Dev := if s.next.tmod 2 = 0 then s.d0 else s.d1
def Slt.ask (s : Slt) (b : List (BitVec 8)) : Int := if s.ok then (if b.length ≤ 1000 then (if s.next ≤ 1000000000 then (if (12 + b.length : Int) ≤ s.dev.cap then 0 else 18) else 2) else 4) else 8
def recB (s : Slt) (b : List (BitVec 8)) : List (BitVec 8) := if s.ask b = 0 then bytesL ⟨s.next, b⟩ else []
theorem ask_zero {s : Slt} {b : List (BitVec 8)} (h : s.ask b = 0) : s.ok ∧ b.length ≤ 1000 ∧ s.next ≤ 1000000000 ∧ (12 + b.length : Int) ≤ s.dev.cap := by
  unfold Slt.ask at h
  split at h
  · split at h
    · split at h
      · split at h
        · exact ⟨by assumption, by assumption, by assumption, by assumption⟩
        · omega
      · omega
    · omega
  · omega
theorem ask_of {s : Slt} {b : List (BitVec 8)} (h : s.ok) (h1 : b.length ≤ 1000) (h2 : s.next ≤ 1000000000) (h3 : (12 + b.length : Int) ≤ s.dev.cap) : s.ask b = 0 := by
  simp only [Slt.ask, if_pos h, if_pos h1, if_pos h2, if_pos h3]
theorem s_slots_record (s : Slt) (hs : s.fine) (b : List (BitVec 8)) (hb : b.length ≤ 1000000) : Spec Try.prog 66 [.agg s.cells, .sl (bT b)] [] (.tup [.t (.sl (bT (recB s b))) true, .t (.i .i64 (s.ask b)) true]) := by
  refine spec_k (hold mixed) b_slots_record [(.sl (bT (recB s b)), true), (.i .i64 (s.ask b), true)] ?_
  have hC := s_slots_Check s hs
  by_cases h : s.ok
  rotate_left
  · have ev : s.ask b = 8 := by simp only [Slt.ask, if_neg h]
    have er : recB s b = [] := by simp [recB, ev]
    rw [chkS_bad h] at hC
    rw [ev, er]
    simp -implicitDefEqProofs only [go_sem, seval, sk]
    refine call_k hC ?_
    simp -implicitDefEqProofs only [go_sem, seval, sk, bT, List.map]
  rw [chkS_ok h] at hC
  by_cases c0 : (1000 : Int) < b.length
  · have ev : s.ask b = 4 := by
      have : ¬ b.length ≤ 1000 := by omega
      simp only [Slt.ask, if_pos h, if_neg this]
    have er : recB s b = [] := by simp [recB, ev]
    rw [ev, er]
    simp -implicitDefEqProofs only [go_sem, seval, sk]
    refine call_k hC ?_
    simp -implicitDefEqProofs only [go_sem, seval, sk, c0]
    try simp -implicitDefEqProofs only [go_sem, seval, sk, bT, List.map]
  have c0' : b.length ≤ 1000 := by omega
  by_cases c1 : 1000000000 < s.next
  · have ev : s.ask b = 2 := by
      have : ¬ s.next ≤ 1000000000 := by omega
      simp only [Slt.ask, if_pos h, if_pos c0', if_neg this]
    have er : recB s b = [] := by simp [recB, ev]
    rw [ev, er]
    simp -implicitDefEqProofs only [go_sem, seval, sk]
    refine call_k hC ?_
    simp -implicitDefEqProofs only [go_sem, seval, sk, c0, c1]
    try simp -implicitDefEqProofs only [go_sem, seval, sk, bT, List.map]
  have c1' : s.next ≤ 1000000000 := by omega
  have hn1 := h.2.2.1
  have hrk : (Rec.mk s.next b).ok = true := (Rec.ok_iff _).2 ⟨by show 0 ≤ s.next; omega, c1', c0'⟩
  have hE := s_frame_Encode_ok ⟨s.next, b⟩ hrk
  have hbl : (bytesL ⟨s.next, b⟩).length = 12 + b.length := bytesL_length _
  rw [hbl] at hE
  have hp := par2 hn1
  rcases hp with hp | hp
  · have hdv : s.dev = s.d0 := if_pos hp
    by_cases c2 : s.d0.cap < 12 + (b.length : Int)
    · have ev : s.ask b = 18 := by
        have : ¬ (12 + (b.length : Int)) ≤ s.dev.cap := by rw [hdv]; omega
        simp only [Slt.ask, if_pos h, if_pos c0', if_pos c1', if_neg this]
      have er : recB s b = [] := by simp [recB, ev]
      have c3 : (s.d0.cap < (((12 + b.length : Nat)) : Int)) = True := eq_true (by omega)
      rw [ev, er]
      simp -implicitDefEqProofs only [go_sem, seval, sk]
      refine call_k hC ?_
      simp -implicitDefEqProofs only [go_sem, seval, sk, c0, c1]
      refine call_k hE ?_ (by simp -implicitDefEqProofs only [go_sem, seval, Rec.cells])
      simp -implicitDefEqProofs only [go_sem, seval, sk, hp, c3]
      try simp -implicitDefEqProofs only [go_sem, seval, sk, bT, List.map]
    · have ev : s.ask b = 0 := ask_of h c0' c1' (by rw [hdv]; omega)
      have er : recB s b = bytesL ⟨s.next, b⟩ := by simp [recB, ev]
      have c3 : (s.d0.cap < (((12 + b.length : Nat)) : Int)) = False := eq_false (by omega)
      have htk : List.take (12 + b.length) (bT (bytesL ⟨s.next, b⟩)) = bT (bytesL ⟨s.next, b⟩) := List.take_of_length_le (by rw [bT_length, hbl]; exact Nat.le_refl _)
      have hle : (12 + b.length ≤ (bytesL ⟨s.next, b⟩).length) = True := eq_true (by rw [hbl]; exact Nat.le_refl _)
      rw [ev, er]
      simp -implicitDefEqProofs only [go_sem, seval, sk]
      refine call_k hC ?_
      simp -implicitDefEqProofs only [go_sem, seval, sk, c0, c1]
      refine call_k hE ?_ (by simp -implicitDefEqProofs only [go_sem, seval, Rec.cells])
      simp -implicitDefEqProofs only [go_sem, seval, sk, hp, c3, bT_length, hle, htk]
  · have hdv : s.dev = s.d1 := if_neg (by omega)
    by_cases c2 : s.d1.cap < 12 + (b.length : Int)
    · have ev : s.ask b = 18 := by
        have : ¬ (12 + (b.length : Int)) ≤ s.dev.cap := by rw [hdv]; omega
        simp only [Slt.ask, if_pos h, if_pos c0', if_pos c1', if_neg this]
      have er : recB s b = [] := by simp [recB, ev]
      have c3 : (s.d1.cap < (((12 + b.length : Nat)) : Int)) = True := eq_true (by omega)
      rw [ev, er]
      simp -implicitDefEqProofs only [go_sem, seval, sk]
      refine call_k hC ?_
      simp -implicitDefEqProofs only [go_sem, seval, sk, c0, c1]
      refine call_k hE ?_ (by simp -implicitDefEqProofs only [go_sem, seval, Rec.cells])
      simp -implicitDefEqProofs only [go_sem, seval, sk, hp, c3]
      try simp -implicitDefEqProofs only [go_sem, seval, sk, bT, List.map]
    · have ev : s.ask b = 0 := ask_of h c0' c1' (by rw [hdv]; omega)
      have er : recB s b = bytesL ⟨s.next, b⟩ := by simp [recB, ev]
      have c3 : (s.d1.cap < (((12 + b.length : Nat)) : Int)) = False := eq_false (by omega)
      have htk : List.take (12 + b.length) (bT (bytesL ⟨s.next, b⟩)) = bT (bytesL ⟨s.next, b⟩) := List.take_of_length_le (by rw [bT_length, hbl]; exact Nat.le_refl _)
      have hle : (12 + b.length ≤ (bytesL ⟨s.next, b⟩).length) = True := eq_true (by rw [hbl]; exact Nat.le_refl _)
      rw [ev, er]
      simp -implicitDefEqProofs only [go_sem, seval, sk]
      refine call_k hC ?_
      simp -implicitDefEqProofs only [go_sem, seval, sk, c0, c1]
      refine call_k hE ?_ (by simp -implicitDefEqProofs only [go_sem, seval, Rec.cells])
      simp -implicitDefEqProofs only [go_sem, seval, sk, hp, c3, bT_length, hle, htk]
def stepD (d : Dev) (b : List (BitVec 8)) : Nat → Dev
  | 0 => d
  | 1 => (d.trunc 0).1
  | 2 => ((d.trunc 0).1.app b).1
  | _ => (((d.trunc 0).1.app b).1.sync).1
def Slt.step (s : Slt) (b : List (BitVec 8)) (n : Nat) : Slt := if s.next.tmod 2 = 0 then ⟨stepD s.d0 b n, s.d1, s.next⟩ else ⟨s.d0, stepD s.d1 b n, s.next⟩
theorem calm_twin {d : Dev} (h : d.calm) : (⟨d.syn, [], d.cap, d.down⟩ : Dev) = d := by
  obtain ⟨_, _, h⟩ := h
  cases d
  simp at h
  subst h
  rfl
theorem s_stepped_0_0 (s : Slt) (hs : s.fine) (h : s.ok) (hp : s.next.tmod 2 = 0) (b : List (BitVec 8)) (hb : b.length ≤ 100000) : Spec Try.prog 67 [.agg s.cells, .sl (bT b), .i .i64 0] [] (.t (.agg (s.step b 0).cells) true) := by
  refine spec_k (hold mixed) b_slots_stepped [(.agg (s.step b 0).cells, true)] ?_
  have ev : s.step b 0 = ⟨stepD s.d0 b 0, s.d1, s.next⟩ := if_pos hp
  have t0 := s_slots_twin s.d0 hs.1
  have t1 := s_slots_twin s.d1 hs.2.1
  rw [calm_twin h.1] at t0
  rw [calm_twin h.2.1] at t1
  rw [ev]
  simp -implicitDefEqProofs only [go_sem, seval, sk]
  refine call_d t0 ?_
  simp -implicitDefEqProofs only [go_sem, seval, sk]
  refine call_d t1 ?_
  simp -implicitDefEqProofs only [go_sem, seval, sk, hp]
  refine loop_u 1 (ln_step (by simp -implicitDefEqProofs only [go_sem, seval]; rfl) fun R0 hR0 => ?_)
  simp -implicitDefEqProofs only [go_sem, seval, sk]
  rfl
theorem s_stepped_0_1 (s : Slt) (hs : s.fine) (h : s.ok) (hp : s.next.tmod 2 = 0) (b : List (BitVec 8)) (hb : b.length ≤ 100000) : Spec Try.prog 67 [.agg s.cells, .sl (bT b), .i .i64 1] [] (.t (.agg (s.step b 1).cells) true) := by
  refine spec_k (hold mixed) b_slots_stepped [(.agg (s.step b 1).cells, true)] ?_
  have ev : s.step b 1 = ⟨stepD s.d0 b 1, s.d1, s.next⟩ := if_pos hp
  have t0 := s_slots_twin s.d0 hs.1
  have t1 := s_slots_twin s.d1 hs.2.1
  rw [calm_twin h.1] at t0
  rw [calm_twin h.2.1] at t1
  rw [ev]
  simp -implicitDefEqProofs only [go_sem, seval, sk]
  refine call_d t0 ?_
  simp -implicitDefEqProofs only [go_sem, seval, sk]
  refine call_d t1 ?_
  simp -implicitDefEqProofs only [go_sem, seval, sk, hp]
  refine loop_u 2 (ln_step (by simp -implicitDefEqProofs only [go_sem, seval]; rfl) fun R0 hR0 => ?_)
  simp -implicitDefEqProofs only [go_sem, seval, sk]
  refine call_k (s_disk_Truncate s.d0 0 hs.1 (by omega) (by omega)) ?_
  simp -implicitDefEqProofs only [go_sem, seval, sk, opR]
  refine hR0 _ (ln_step (by simp -implicitDefEqProofs only [go_sem, seval]; rfl) fun R1 hR1 => ?_)
  simp -implicitDefEqProofs only [go_sem, seval, sk]
  rfl
theorem s_stepped_0_2 (s : Slt) (hs : s.fine) (h : s.ok) (hp : s.next.tmod 2 = 0) (b : List (BitVec 8)) (hb : b.length ≤ 100000) : Spec Try.prog 67 [.agg s.cells, .sl (bT b), .i .i64 2] [] (.t (.agg (s.step b 2).cells) true) := by
  refine spec_k (hold mixed) b_slots_stepped [(.agg (s.step b 2).cells, true)] ?_
  have ev : s.step b 2 = ⟨stepD s.d0 b 2, s.d1, s.next⟩ := if_pos hp
  have t0 := s_slots_twin s.d0 hs.1
  have t1 := s_slots_twin s.d1 hs.2.1
  rw [calm_twin h.1] at t0
  rw [calm_twin h.2.1] at t1
  rw [ev]
  simp -implicitDefEqProofs only [go_sem, seval, sk]
  refine call_d t0 ?_
  simp -implicitDefEqProofs only [go_sem, seval, sk]
  refine call_d t1 ?_
  simp -implicitDefEqProofs only [go_sem, seval, sk, hp]
  refine loop_u 3 (ln_step (by simp -implicitDefEqProofs only [go_sem, seval]; rfl) fun R0 hR0 => ?_)
  simp -implicitDefEqProofs only [go_sem, seval, sk]
  refine call_k (s_disk_Truncate s.d0 0 hs.1 (by omega) (by omega)) ?_
  simp -implicitDefEqProofs only [go_sem, seval, sk, opR]
  refine hR0 _ (ln_step (by simp -implicitDefEqProofs only [go_sem, seval]; rfl) fun R1 hR1 => ?_)
  simp -implicitDefEqProofs only [go_sem, seval, sk]
  refine call_k (s_disk_Append (s.d0.trunc 0).1 b (trunc_small _ _) hb) ?_
  simp -implicitDefEqProofs only [go_sem, seval, sk, opR]
  refine hR1 _ (ln_step (by simp -implicitDefEqProofs only [go_sem, seval]; rfl) fun R2 hR2 => ?_)
  simp -implicitDefEqProofs only [go_sem, seval, sk]
  rfl
theorem s_stepped_0_3 (s : Slt) (hs : s.fine) (h : s.ok) (hp : s.next.tmod 2 = 0) (b : List (BitVec 8)) (hb : b.length ≤ 100000) : Spec Try.prog 67 [.agg s.cells, .sl (bT b), .i .i64 3] [] (.t (.agg (s.step b 3).cells) true) := by
  refine spec_k (hold mixed) b_slots_stepped [(.agg (s.step b 3).cells, true)] ?_
  have ev : s.step b 3 = ⟨stepD s.d0 b 3, s.d1, s.next⟩ := if_pos hp
  have t0 := s_slots_twin s.d0 hs.1
  have t1 := s_slots_twin s.d1 hs.2.1
  rw [calm_twin h.1] at t0
  rw [calm_twin h.2.1] at t1
  rw [ev]
  simp -implicitDefEqProofs only [go_sem, seval, sk]
  refine call_d t0 ?_
  simp -implicitDefEqProofs only [go_sem, seval, sk]
  refine call_d t1 ?_
  simp -implicitDefEqProofs only [go_sem, seval, sk, hp]
  refine loop_u 4 (ln_step (by simp -implicitDefEqProofs only [go_sem, seval]; rfl) fun R0 hR0 => ?_)
  simp -implicitDefEqProofs only [go_sem, seval, sk]
  refine call_k (s_disk_Truncate s.d0 0 hs.1 (by omega) (by omega)) ?_
  simp -implicitDefEqProofs only [go_sem, seval, sk, opR]
  refine hR0 _ (ln_step (by simp -implicitDefEqProofs only [go_sem, seval]; rfl) fun R1 hR1 => ?_)
  simp -implicitDefEqProofs only [go_sem, seval, sk]
  refine call_k (s_disk_Append (s.d0.trunc 0).1 b (trunc_small _ _) hb) ?_
  simp -implicitDefEqProofs only [go_sem, seval, sk, opR]
  refine hR1 _ (ln_step (by simp -implicitDefEqProofs only [go_sem, seval]; rfl) fun R2 hR2 => ?_)
  simp -implicitDefEqProofs only [go_sem, seval, sk]
  refine call_k (s_disk_Sync ((s.d0.trunc 0).1.app b).1 (app_small _ _)) ?_
  simp -implicitDefEqProofs only [go_sem, seval, sk, opR]
  refine hR2 _ (ln_step (by simp -implicitDefEqProofs only [go_sem, seval]; rfl) fun R3 hR3 => ?_)
  simp -implicitDefEqProofs only [go_sem, seval, sk]
  rfl
theorem s_stepped_1_0 (s : Slt) (hs : s.fine) (h : s.ok) (hp : s.next.tmod 2 = 1) (b : List (BitVec 8)) (hb : b.length ≤ 100000) : Spec Try.prog 67 [.agg s.cells, .sl (bT b), .i .i64 0] [] (.t (.agg (s.step b 0).cells) true) := by
  refine spec_k (hold mixed) b_slots_stepped [(.agg (s.step b 0).cells, true)] ?_
  have ev : s.step b 0 = ⟨s.d0, stepD s.d1 b 0, s.next⟩ := if_neg (by omega)
  have t0 := s_slots_twin s.d0 hs.1
  have t1 := s_slots_twin s.d1 hs.2.1
  rw [calm_twin h.1] at t0
  rw [calm_twin h.2.1] at t1
  rw [ev]
  simp -implicitDefEqProofs only [go_sem, seval, sk]
  refine call_d t0 ?_
  simp -implicitDefEqProofs only [go_sem, seval, sk]
  refine call_d t1 ?_
  simp -implicitDefEqProofs only [go_sem, seval, sk, hp]
  refine loop_u 1 (ln_step (by simp -implicitDefEqProofs only [go_sem, seval]; rfl) fun R0 hR0 => ?_)
  simp -implicitDefEqProofs only [go_sem, seval, sk]
  rfl
theorem s_stepped_1_1 (s : Slt) (hs : s.fine) (h : s.ok) (hp : s.next.tmod 2 = 1) (b : List (BitVec 8)) (hb : b.length ≤ 100000) : Spec Try.prog 67 [.agg s.cells, .sl (bT b), .i .i64 1] [] (.t (.agg (s.step b 1).cells) true) := by
  refine spec_k (hold mixed) b_slots_stepped [(.agg (s.step b 1).cells, true)] ?_
  have ev : s.step b 1 = ⟨s.d0, stepD s.d1 b 1, s.next⟩ := if_neg (by omega)
  have t0 := s_slots_twin s.d0 hs.1
  have t1 := s_slots_twin s.d1 hs.2.1
  rw [calm_twin h.1] at t0
  rw [calm_twin h.2.1] at t1
  rw [ev]
  simp -implicitDefEqProofs only [go_sem, seval, sk]
  refine call_d t0 ?_
  simp -implicitDefEqProofs only [go_sem, seval, sk]
  refine call_d t1 ?_
  simp -implicitDefEqProofs only [go_sem, seval, sk, hp]
  refine loop_u 2 (ln_step (by simp -implicitDefEqProofs only [go_sem, seval]; rfl) fun R0 hR0 => ?_)
  simp -implicitDefEqProofs only [go_sem, seval, sk]
  refine call_k (s_disk_Truncate s.d1 0 hs.2.1 (by omega) (by omega)) ?_
  simp -implicitDefEqProofs only [go_sem, seval, sk, opR]
  refine hR0 _ (ln_step (by simp -implicitDefEqProofs only [go_sem, seval]; rfl) fun R1 hR1 => ?_)
  simp -implicitDefEqProofs only [go_sem, seval, sk]
  rfl
theorem s_stepped_1_2 (s : Slt) (hs : s.fine) (h : s.ok) (hp : s.next.tmod 2 = 1) (b : List (BitVec 8)) (hb : b.length ≤ 100000) : Spec Try.prog 67 [.agg s.cells, .sl (bT b), .i .i64 2] [] (.t (.agg (s.step b 2).cells) true) := by
  refine spec_k (hold mixed) b_slots_stepped [(.agg (s.step b 2).cells, true)] ?_
  have ev : s.step b 2 = ⟨s.d0, stepD s.d1 b 2, s.next⟩ := if_neg (by omega)
  have t0 := s_slots_twin s.d0 hs.1
  have t1 := s_slots_twin s.d1 hs.2.1
  rw [calm_twin h.1] at t0
  rw [calm_twin h.2.1] at t1
  rw [ev]
  simp -implicitDefEqProofs only [go_sem, seval, sk]
  refine call_d t0 ?_
  simp -implicitDefEqProofs only [go_sem, seval, sk]
  refine call_d t1 ?_
  simp -implicitDefEqProofs only [go_sem, seval, sk, hp]
  refine loop_u 3 (ln_step (by simp -implicitDefEqProofs only [go_sem, seval]; rfl) fun R0 hR0 => ?_)
  simp -implicitDefEqProofs only [go_sem, seval, sk]
  refine call_k (s_disk_Truncate s.d1 0 hs.2.1 (by omega) (by omega)) ?_
  simp -implicitDefEqProofs only [go_sem, seval, sk, opR]
  refine hR0 _ (ln_step (by simp -implicitDefEqProofs only [go_sem, seval]; rfl) fun R1 hR1 => ?_)
  simp -implicitDefEqProofs only [go_sem, seval, sk]
  refine call_k (s_disk_Append (s.d1.trunc 0).1 b (trunc_small _ _) hb) ?_
  simp -implicitDefEqProofs only [go_sem, seval, sk, opR]
  refine hR1 _ (ln_step (by simp -implicitDefEqProofs only [go_sem, seval]; rfl) fun R2 hR2 => ?_)
  simp -implicitDefEqProofs only [go_sem, seval, sk]
  rfl
theorem s_stepped_1_3 (s : Slt) (hs : s.fine) (h : s.ok) (hp : s.next.tmod 2 = 1) (b : List (BitVec 8)) (hb : b.length ≤ 100000) : Spec Try.prog 67 [.agg s.cells, .sl (bT b), .i .i64 3] [] (.t (.agg (s.step b 3).cells) true) := by
  refine spec_k (hold mixed) b_slots_stepped [(.agg (s.step b 3).cells, true)] ?_
  have ev : s.step b 3 = ⟨s.d0, stepD s.d1 b 3, s.next⟩ := if_neg (by omega)
  have t0 := s_slots_twin s.d0 hs.1
  have t1 := s_slots_twin s.d1 hs.2.1
  rw [calm_twin h.1] at t0
  rw [calm_twin h.2.1] at t1
  rw [ev]
  simp -implicitDefEqProofs only [go_sem, seval, sk]
  refine call_d t0 ?_
  simp -implicitDefEqProofs only [go_sem, seval, sk]
  refine call_d t1 ?_
  simp -implicitDefEqProofs only [go_sem, seval, sk, hp]
  refine loop_u 4 (ln_step (by simp -implicitDefEqProofs only [go_sem, seval]; rfl) fun R0 hR0 => ?_)
  simp -implicitDefEqProofs only [go_sem, seval, sk]
  refine call_k (s_disk_Truncate s.d1 0 hs.2.1 (by omega) (by omega)) ?_
  simp -implicitDefEqProofs only [go_sem, seval, sk, opR]
  refine hR0 _ (ln_step (by simp -implicitDefEqProofs only [go_sem, seval]; rfl) fun R1 hR1 => ?_)
  simp -implicitDefEqProofs only [go_sem, seval, sk]
  refine call_k (s_disk_Append (s.d1.trunc 0).1 b (trunc_small _ _) hb) ?_
  simp -implicitDefEqProofs only [go_sem, seval, sk, opR]
  refine hR1 _ (ln_step (by simp -implicitDefEqProofs only [go_sem, seval]; rfl) fun R2 hR2 => ?_)
  simp -implicitDefEqProofs only [go_sem, seval, sk]
  refine call_k (s_disk_Sync ((s.d1.trunc 0).1.app b).1 (app_small _ _)) ?_
  simp -implicitDefEqProofs only [go_sem, seval, sk, opR]
  refine hR2 _ (ln_step (by simp -implicitDefEqProofs only [go_sem, seval]; rfl) fun R3 hR3 => ?_)
  simp -implicitDefEqProofs only [go_sem, seval, sk]
  rfl
theorem s_slots_stepped (s : Slt) (hs : s.fine) (h : s.ok) (b : List (BitVec 8)) (hb : b.length ≤ 100000) (n : Nat) (hn : n ≤ 3) : Spec Try.prog 67 [.agg s.cells, .sl (bT b), .i .i64 n] [] (.t (.agg (s.step b n).cells) true) := by
  rcases par2 h.2.2.1 with hp | hp
  · match n, hn with
    | 0, _ => exact s_stepped_0_0 s hs h hp b hb
    | 1, _ => exact s_stepped_0_1 s hs h hp b hb
    | 2, _ => exact s_stepped_0_2 s hs h hp b hb
    | 3, _ => exact s_stepped_0_3 s hs h hp b hb
  · match n, hn with
    | 0, _ => exact s_stepped_1_0 s hs h hp b hb
    | 1, _ => exact s_stepped_1_1 s hs h hp b hb
    | 2, _ => exact s_stepped_1_2 s hs h hp b hb
    | 3, _ => exact s_stepped_1_3 s hs h hp b hb
def opS (p : Slt × Int) : List (T × Bool) := [(.agg p.1.cells, true), (.i .i64 p.2, true)]
def opS3 (p : Slt × Int × Int) : List (T × Bool) := [(.agg p.1.cells, true), (.i .i64 p.2.1, true), (.i .i64 p.2.2, true)]
attribute [go_sem] opS opS3
def Slt.setN (s : Slt) (n : Int) : Slt := ⟨s.d0, s.d1, n⟩
theorem stepD_small {d : Dev} (hd : d.small) (b : List (BitVec 8)) : ∀ n, (stepD d b n).small
  | 0 => hd
  | 1 => trunc_small _ _
  | 2 => app_small _ _
  | 3 => sync_small _
  | n + 4 => sync_small _
def saveS (s : Slt) (b : List (BitVec 8)) : Slt × Int × Int := if s.ask b = 0 then ((s.step (bytesL ⟨s.next, b⟩) 3).setN (s.next + 1), s.next, 0) else (zeroS, 0, s.ask b)
theorem s_slots_Save (s : Slt) (hs : s.fine) (b : List (BitVec 8)) (hb : b.length ≤ 1000000) : Spec Try.prog 30 [.agg s.cells, .sl (bT b)] [] (resV ((opS3 (saveS s b)).map AV.ofT)) := by
  refine spec_k (hold mixed) b_slots_Save (opS3 (saveS s b)) ?_
  have hR := s_slots_record s hs b hb
  by_cases ha : s.ask b = 0
  · obtain ⟨hok, a1, a2, a3⟩ := ask_zero ha
    have er : recB s b = bytesL ⟨s.next, b⟩ := by simp [recB, ha]
    have ev : saveS s b = ((s.step (bytesL ⟨s.next, b⟩) 3).setN (s.next + 1), s.next, 0) := if_pos ha
    have hbl : (bytesL ⟨s.next, b⟩).length ≤ 100000 := by rw [bytesL_length]; show 12 + b.length ≤ _; omega
    have hn1 := hok.2.2.1
    have w1 : IntKind.i64.wrap (s.next + 1) = s.next + 1 := wrap_i64_id (by omega) (by omega)
    have hS : Spec Try.prog 67 [.agg s.cells, .sl (bT (bytesL ⟨s.next, b⟩)), .i .i64 3] [] (.t (.agg (s.step (bytesL ⟨s.next, b⟩) 3).cells) true) := s_slots_stepped s hs hok _ hbl 3 (by omega)
    rw [ha, er] at hR
    rw [ev]
    simp -implicitDefEqProofs only [go_sem, seval, sk]
    refine call_k hR ?_
    simp -implicitDefEqProofs only [go_sem, seval, sk]
    refine call_k hS ?_
    generalize s.step (bytesL ⟨s.next, b⟩) 3 = t
    simp -implicitDefEqProofs only [go_sem, seval, sk, w1, opS3, Slt.setN]
  · have ev : saveS s b = (zeroS, 0, s.ask b) := if_neg ha
    have ha' : (s.ask b != 0) = true := by simp [ha]
    rw [ev]
    simp -implicitDefEqProofs only [go_sem, seval, sk]
    refine call_k hR ?_
    simp -implicitDefEqProofs only [go_sem, seval, sk, ha', opS3, zeroS_cells]
    try rfl
def halfS (s : Slt) (b : List (BitVec 8)) (n k : Int) : Slt × Int := if s.ask b = 0 then (if 0 ≤ n ∧ n ≤ 3 then (if s.next.tmod 2 = 0 then
    (if ((stepD s.d0 (bytesL ⟨s.next, b⟩) n.toNat).crash k).2 = 0 then (⟨((stepD s.d0 (bytesL ⟨s.next, b⟩) n.toNat).crash k).1, (s.d1.crash 0).1, s.next⟩, 0) else (zeroS, ((stepD s.d0 (bytesL ⟨s.next, b⟩) n.toNat).crash k).2))
  else (if ((stepD s.d1 (bytesL ⟨s.next, b⟩) n.toNat).crash k).2 = 0 then (⟨(s.d0.crash 0).1, ((stepD s.d1 (bytesL ⟨s.next, b⟩) n.toNat).crash k).1, s.next⟩, 0) else (zeroS, ((stepD s.d1 (bytesL ⟨s.next, b⟩) n.toNat).crash k).2)))
  else (zeroS, 2)) else (zeroS, s.ask b)
theorem calm_crash {d : Dev} (h : d.calm) : (d.crash 0).2 = 0 := by
  have hu := upE_calm h
  simp [Dev.crash, orE, hu]
theorem s_slots_Half (s : Slt) (hs : s.fine) (b : List (BitVec 8)) (hb : b.length ≤ 1000000) (n k : Int) (n0 : -9223372036854775808 ≤ n) (n1 : n < 9223372036854775808) (k0 : -9223372036854775808 ≤ k) (k1 : k < 9223372036854775808) : Spec Try.prog 51 [.agg s.cells, .sl (bT b), .i .i64 n, .i .i64 k] [] (resV ((opS (halfS s b n k)).map AV.ofT)) := by
  refine spec_k (hold mixed) b_slots_Half (opS (halfS s b n k)) ?_
  have hR := s_slots_record s hs b hb
  by_cases ha : s.ask b = 0
  rotate_left
  · have ev : halfS s b n k = (zeroS, s.ask b) := if_neg ha
    have ha' : (s.ask b != 0) = true := by simp [ha]
    rw [ev]
    simp -implicitDefEqProofs only [go_sem, seval, sk]
    refine call_k hR ?_
    simp -implicitDefEqProofs only [go_sem, seval, sk, ha', opS, zeroS_cells]
    try rfl
  obtain ⟨hok, a1, a2, a3⟩ := ask_zero ha
  have er : recB s b = bytesL ⟨s.next, b⟩ := by simp [recB, ha]
  rw [ha, er] at hR
  by_cases c0 : n < 0
  · have ev : halfS s b n k = (zeroS, 2) := by
      have : ¬ (0 ≤ n ∧ n ≤ 3) := by omega
      simp only [halfS, if_pos ha, if_neg this]
    rw [ev]
    simp -implicitDefEqProofs only [go_sem, seval, sk]
    refine call_k hR ?_
    simp -implicitDefEqProofs only [go_sem, seval, sk, c0, opS, zeroS_cells]
    try rfl
  by_cases c1 : 3 < n
  · have ev : halfS s b n k = (zeroS, 2) := by
      have : ¬ (0 ≤ n ∧ n ≤ 3) := by omega
      simp only [halfS, if_pos ha, if_neg this]
    rw [ev]
    simp -implicitDefEqProofs only [go_sem, seval, sk]
    refine call_k hR ?_
    simp -implicitDefEqProofs only [go_sem, seval, sk, c0, c1, opS, zeroS_cells]
    try rfl
  obtain ⟨m, rfl⟩ : ∃ m : Nat, n = m := ⟨n.toNat, by omega⟩
  have hm : m ≤ 3 := by omega
  have e3 : ((m : Int)).toNat = m := by omega
  have c2 : (0 ≤ (m : Int) ∧ (m : Int) ≤ 3) := by omega
  have hbl : (bytesL ⟨s.next, b⟩).length ≤ 100000 := by rw [bytesL_length]; show 12 + b.length ≤ _; omega
  have hS := s_slots_stepped s hs hok _ hbl m hm
  rcases par2 hok.2.2.1 with hp | hp
  · have est : s.step (bytesL ⟨s.next, b⟩) m = ⟨stepD s.d0 (bytesL ⟨s.next, b⟩) m, s.d1, s.next⟩ := if_pos hp
    rw [est] at hS
    have hco := calm_crash hok.2.1
    have hX := s_disk_Crash (stepD s.d0 (bytesL ⟨s.next, b⟩) m) k (stepD_small hs.1 _ _) k0 k1
    have hY := s_disk_Crash s.d1 0 hs.2.1 (by omega) (by omega)
    by_cases hz : ((stepD s.d0 (bytesL ⟨s.next, b⟩) m).crash k).2 = 0
    · have ev : halfS s b m k = (⟨((stepD s.d0 (bytesL ⟨s.next, b⟩) m).crash k).1, (s.d1.crash 0).1, s.next⟩, 0) := by
        simp only [halfS, if_pos ha, if_pos c2, if_pos hp, e3, if_pos hz]
      rw [ev]
      generalize stepD s.d0 (bytesL ⟨s.next, b⟩) m = t at *
      generalize t.crash k = p at *
      generalize s.d1.crash 0 = q at *
      simp -implicitDefEqProofs only [go_sem, seval, sk]
      refine call_k hR ?_
      simp -implicitDefEqProofs only [go_sem, seval, sk, c0, c1]
      refine call_k hS ?_
      simp -implicitDefEqProofs only [go_sem, seval, sk, hp]
      refine call_k hX ?_
      simp -implicitDefEqProofs only [go_sem, seval, sk, opR, hz]
      refine call_k hY ?_
      simp -implicitDefEqProofs only [go_sem, seval, sk, opR, hco, opS]
    · have ev : halfS s b m k = (zeroS, ((stepD s.d0 (bytesL ⟨s.next, b⟩) m).crash k).2) := by
        simp only [halfS, if_pos ha, if_pos c2, if_pos hp, e3, if_neg hz]
      have hz' : (((stepD s.d0 (bytesL ⟨s.next, b⟩) m).crash k).2 != 0) = true := by simp [hz]
      rw [ev]
      generalize stepD s.d0 (bytesL ⟨s.next, b⟩) m = t at *
      generalize t.crash k = p at *
      simp -implicitDefEqProofs only [go_sem, seval, sk]
      refine call_k hR ?_
      simp -implicitDefEqProofs only [go_sem, seval, sk, c0, c1]
      refine call_k hS ?_
      simp -implicitDefEqProofs only [go_sem, seval, sk, hp]
      refine call_k hX ?_
      simp -implicitDefEqProofs only [go_sem, seval, sk, opR, hz', opS, zeroS_cells]
      try rfl
  · have est : s.step (bytesL ⟨s.next, b⟩) m = ⟨s.d0, stepD s.d1 (bytesL ⟨s.next, b⟩) m, s.next⟩ := if_neg (show ¬ s.next.tmod 2 = 0 by omega)
    rw [est] at hS
    have hco := calm_crash hok.1
    have hX := s_disk_Crash (stepD s.d1 (bytesL ⟨s.next, b⟩) m) k (stepD_small hs.2.1 _ _) k0 k1
    have hY := s_disk_Crash s.d0 0 hs.1 (by omega) (by omega)
    by_cases hz : ((stepD s.d1 (bytesL ⟨s.next, b⟩) m).crash k).2 = 0
    · have ev : halfS s b m k = (⟨(s.d0.crash 0).1, ((stepD s.d1 (bytesL ⟨s.next, b⟩) m).crash k).1, s.next⟩, 0) := by
        simp only [halfS, if_pos ha, if_pos c2, if_neg (show ¬ s.next.tmod 2 = 0 by omega), e3, if_pos hz]
      rw [ev]
      generalize stepD s.d1 (bytesL ⟨s.next, b⟩) m = t at *
      generalize t.crash k = p at *
      generalize s.d0.crash 0 = q at *
      simp -implicitDefEqProofs only [go_sem, seval, sk]
      refine call_k hR ?_
      simp -implicitDefEqProofs only [go_sem, seval, sk, c0, c1]
      refine call_k hS ?_
      simp -implicitDefEqProofs only [go_sem, seval, sk, hp]
      refine call_k hX ?_
      simp -implicitDefEqProofs only [go_sem, seval, sk, opR, hz]
      refine call_k hY ?_
      simp -implicitDefEqProofs only [go_sem, seval, sk, opR, hco, opS]
    · have ev : halfS s b m k = (zeroS, ((stepD s.d1 (bytesL ⟨s.next, b⟩) m).crash k).2) := by
        simp only [halfS, if_pos ha, if_pos c2, if_neg (show ¬ s.next.tmod 2 = 0 by omega), e3, if_neg hz]
      have hz' : (((stepD s.d1 (bytesL ⟨s.next, b⟩) m).crash k).2 != 0) = true := by simp [hz]
      rw [ev]
      generalize stepD s.d1 (bytesL ⟨s.next, b⟩) m = t at *
      generalize t.crash k = p at *
      simp -implicitDefEqProofs only [go_sem, seval, sk]
      refine call_k hR ?_
      simp -implicitDefEqProofs only [go_sem, seval, sk, c0, c1]
      refine call_k hS ?_
      simp -implicitDefEqProofs only [go_sem, seval, sk, hp]
      refine call_k hX ?_
      simp -implicitDefEqProofs only [go_sem, seval, sk, opR, hz', opS, zeroS_cells]
      try rfl
def loadS (s : Slt) : Int × List (BitVec 8) × Int := if s.ok then (match newO s with
  | some r => (r.num, r.data, 0)
  | none => (0, [], 6)) else (0, [], 8)
def opL (p : Int × List (BitVec 8) × Int) : List (T × Bool) := [(.i .i64 p.1, true), (.sl (bT p.2.1), true), (.i .i64 p.2.2, true)]
attribute [go_sem] opL
theorem s_slots_Load (s : Slt) (hs : s.fine) : Spec Try.prog 16 [.agg s.cells] [] (resV ((opL (loadS s)).map AV.ofT)) := by
  refine spec_k (hold mixed) b_slots_Load (opL (loadS s)) ?_
  have hC := s_slots_Check s hs
  by_cases h : s.ok
  · have hN := s_slots_newest s h.1.1 h.2.1.1
    rw [chkS_ok h] at hC
    cases ho : newO s with
    | none =>
      have ev : loadS s = (0, [], 6) := by simp only [loadS, if_pos h, ho]
      have eb : newB s = ⟨-1, []⟩ := by simp [newB, ho]
      rw [ev]
      rw [eb] at hN
      simp -implicitDefEqProofs only [go_sem, seval, sk]
      refine call_k hC ?_
      simp -implicitDefEqProofs only [go_sem, seval, sk]
      refine call_k hN ?_
      simp -implicitDefEqProofs only [go_sem, seval, sk, Rec.cells, opL]
      try simp -implicitDefEqProofs only [go_sem, seval, sk, bT, List.map]
    | some r =>
      obtain ⟨p0, p1, p2⟩ := newO_ok ho
      have ev : loadS s = (r.num, r.data, 0) := by simp only [loadS, if_pos h, ho]
      have eb : newB s = r := by simp [newB, ho]
      have q0 : (r.num < 0) = False := eq_false (by omega)
      rw [ev]
      rw [eb] at hN
      simp -implicitDefEqProofs only [go_sem, seval, sk]
      refine call_k hC ?_
      simp -implicitDefEqProofs only [go_sem, seval, sk]
      refine call_k hN ?_
      simp -implicitDefEqProofs only [go_sem, seval, sk, Rec.cells, q0, opL]
  · have ev : loadS s = (0, [], 8) := by simp only [loadS, if_neg h]
    rw [chkS_bad h] at hC
    rw [ev]
    simp -implicitDefEqProofs only [go_sem, seval, sk]
    refine call_k hC ?_
    simp -implicitDefEqProofs only [go_sem, seval, sk, opL]
    try simp -implicitDefEqProofs only [go_sem, seval, sk, bT, List.map]
def openD (d : Dev) : Dev := ⟨d.all, [], d.cap, false⟩
def nextO (s : Slt) : Int := match newO s with
  | some r => r.num + 1
  | none => 1
def openS (s : Slt) : Slt × Int := if s.d0.check = 0 ∧ s.d1.check = 0 then (⟨openD s.d0, openD s.d1, nextO ⟨openD s.d0, openD s.d1, 0⟩⟩, 0) else (zeroS, 8)
theorem sync_open {d : Dev} (h : d.check = 0) (hd : d.down = false) : d.sync = (openD d, 0) := by
  have hu := upE_of h hd
  simp only [Dev.sync, orE, hu, if_true, openD]
theorem start_open {d : Dev} (h : d.check = 0) (hd : d.down = true) : d.start.1.sync = (openD d, 0) := by
  have ht : d.tail = [] := by
    have := h
    unfold Dev.check Dev.bad at this
    simp [hd] at this
    exact this.2.2.2
  have e : d.start = (⟨d.syn, [], d.cap, false⟩, 0) := by simp [Dev.start, h, hd]
  have hc : d.start.1.check = 0 := start_check (by rw [e])
  rw [sync_open hc (by rw [e])]
  simp [openD, e, Dev.all, ht]
theorem openD_check {d : Dev} (h : d.check = 0) : (openD d).check = 0 := by
  obtain ⟨k1, k2, k3⟩ := d.ok_of h
  refine check_of k1 k2 ?_ (fun h => by cases h)
  show ((d.all.length : Nat) : Int) + (([] : List (BitVec 8)).length : Nat) ≤ d.cap
  simp only [Dev.all, List.length_append, List.length_nil]
  omega
theorem openD_all (d : Dev) : (openD d).all = d.all := by simp [openD, Dev.all]
theorem openD_small {d : Dev} (hd : d.small) (h : d.check = 0) : (openD d).small := by
  have := d.ok_of h
  have := all_small h
  exact ⟨by show d.all.length ≤ _; omega, Nat.zero_le _⟩
theorem newO_next (a b : Dev) (n m : Int) : newO ⟨a, b, n⟩ = newO ⟨a, b, m⟩ := rfl
theorem s_open_00 (s : Slt) (hs : s.fine) (hc : s.d0.check = 0) (hc1 : s.d1.check = 0) (hd : s.d0.down = false) (hd1 : s.d1.down = false) : Spec Try.prog 55 [.agg s.cells] [] (resV ((opS (openS s)).map AV.ofT)) := by
  refine spec_k (hold mixed) b_slots_Open (opS (openS s)) ?_
  have ev : openS s = (⟨openD s.d0, openD s.d1, nextO ⟨openD s.d0, openD s.d1, 0⟩⟩, 0) := if_pos ⟨hc, hc1⟩
  have hN := s_slots_newest ⟨openD s.d0, openD s.d1, s.next⟩ (openD_check hc) (openD_check hc1)
  rw [ev]
  simp -implicitDefEqProofs only [go_sem, seval, sk]
  refine loop_u 3 (ln_step (by simp -implicitDefEqProofs only [go_sem, seval]; rfl) fun R hR => ?_)
  simp -implicitDefEqProofs only [go_sem, seval, sk]
  refine call_k (s_disk_Check s.d0 hs.1) ?_
  simp -implicitDefEqProofs only [go_sem, seval, sk, hc, hd]
  refine call_k (s_disk_Sync s.d0 hs.1) ?_ (by simp -implicitDefEqProofs only [go_sem, seval, Dev.cells, hd])
  rw [sync_open hc hd]
  simp -implicitDefEqProofs only [go_sem, seval, sk, opR, openD]
  refine hR _ (ln_step (by simp -implicitDefEqProofs only [go_sem, seval]; rfl) fun R2 hR2 => ?_)
  simp -implicitDefEqProofs only [go_sem, seval, sk]
  refine call_k (s_disk_Check s.d1 hs.2.1) ?_
  simp -implicitDefEqProofs only [go_sem, seval, sk, hc1, hd1]
  refine call_k (s_disk_Sync s.d1 hs.2.1) ?_ (by simp -implicitDefEqProofs only [go_sem, seval, Dev.cells, hd1])
  rw [sync_open hc1 hd1]
  simp -implicitDefEqProofs only [go_sem, seval, sk, opR, openD]
  refine hR2 _ (ln_step (by simp -implicitDefEqProofs only [go_sem, seval]; rfl) fun R3 hR3 => ?_)
  simp -implicitDefEqProofs only [go_sem, seval, sk]
  refine call_k hN ?_ (by simp -implicitDefEqProofs only [go_sem, seval, openD])
  cases ho : newO ⟨openD s.d0, openD s.d1, s.next⟩ with
  | none =>
    have eb : newB ⟨openD s.d0, openD s.d1, s.next⟩ = ⟨-1, []⟩ := by simp [newB, ho]
    have en : nextO ⟨openD s.d0, openD s.d1, 0⟩ = 1 := by simp only [nextO, newO_next _ _ 0 s.next, ho]
    rw [eb, en]
    simp -implicitDefEqProofs only [go_sem, seval, sk, Rec.cells, opS, openD]
  | some r =>
    obtain ⟨p0, p1, p2⟩ := newO_ok ho
    have eb : newB ⟨openD s.d0, openD s.d1, s.next⟩ = r := by simp [newB, ho]
    have en : nextO ⟨openD s.d0, openD s.d1, 0⟩ = r.num + 1 := by simp only [nextO, newO_next _ _ 0 s.next, ho]
    have w1 : IntKind.i64.wrap (r.num + 1) = r.num + 1 := wrap_i64_id (by omega) (by omega)
    rw [eb, en]
    by_cases hz : 0 < r.num
    · simp -implicitDefEqProofs only [go_sem, seval, sk, Rec.cells, hz, w1, opS, openD]
    · have hz0 : r.num = 0 := by omega
      simp -implicitDefEqProofs only [go_sem, seval, sk, Rec.cells, hz0, opS, openD]
theorem s_open_01 (s : Slt) (hs : s.fine) (hc : s.d0.check = 0) (hc1 : s.d1.check = 0) (hd : s.d0.down = false) (hd1 : s.d1.down = true) : Spec Try.prog 55 [.agg s.cells] [] (resV ((opS (openS s)).map AV.ofT)) := by
  refine spec_k (hold mixed) b_slots_Open (opS (openS s)) ?_
  have ev : openS s = (⟨openD s.d0, openD s.d1, nextO ⟨openD s.d0, openD s.d1, 0⟩⟩, 0) := if_pos ⟨hc, hc1⟩
  have hN := s_slots_newest ⟨openD s.d0, openD s.d1, s.next⟩ (openD_check hc) (openD_check hc1)
  rw [ev]
  simp -implicitDefEqProofs only [go_sem, seval, sk]
  refine loop_u 3 (ln_step (by simp -implicitDefEqProofs only [go_sem, seval]; rfl) fun R hR => ?_)
  simp -implicitDefEqProofs only [go_sem, seval, sk]
  refine call_k (s_disk_Check s.d0 hs.1) ?_
  simp -implicitDefEqProofs only [go_sem, seval, sk, hc, hd]
  refine call_k (s_disk_Sync s.d0 hs.1) ?_ (by simp -implicitDefEqProofs only [go_sem, seval, Dev.cells, hd])
  rw [sync_open hc hd]
  simp -implicitDefEqProofs only [go_sem, seval, sk, opR, openD]
  refine hR _ (ln_step (by simp -implicitDefEqProofs only [go_sem, seval]; rfl) fun R2 hR2 => ?_)
  simp -implicitDefEqProofs only [go_sem, seval, sk]
  refine call_k (s_disk_Check s.d1 hs.2.1) ?_
  simp -implicitDefEqProofs only [go_sem, seval, sk, hc1, hd1]
  refine call_k (s_disk_Start s.d1 hs.2.1) ?_ (by simp -implicitDefEqProofs only [go_sem, seval, Dev.cells, hd1])
  simp -implicitDefEqProofs only [go_sem, seval, sk, opR]
  refine call_k (s_disk_Sync s.d1.start.1 (start_small _)) ?_
  rw [start_open hc1 hd1]
  simp -implicitDefEqProofs only [go_sem, seval, sk, opR, openD]
  refine hR2 _ (ln_step (by simp -implicitDefEqProofs only [go_sem, seval]; rfl) fun R3 hR3 => ?_)
  simp -implicitDefEqProofs only [go_sem, seval, sk]
  refine call_k hN ?_ (by simp -implicitDefEqProofs only [go_sem, seval, openD])
  cases ho : newO ⟨openD s.d0, openD s.d1, s.next⟩ with
  | none =>
    have eb : newB ⟨openD s.d0, openD s.d1, s.next⟩ = ⟨-1, []⟩ := by simp [newB, ho]
    have en : nextO ⟨openD s.d0, openD s.d1, 0⟩ = 1 := by simp only [nextO, newO_next _ _ 0 s.next, ho]
    rw [eb, en]
    simp -implicitDefEqProofs only [go_sem, seval, sk, Rec.cells, opS, openD]
  | some r =>
    obtain ⟨p0, p1, p2⟩ := newO_ok ho
    have eb : newB ⟨openD s.d0, openD s.d1, s.next⟩ = r := by simp [newB, ho]
    have en : nextO ⟨openD s.d0, openD s.d1, 0⟩ = r.num + 1 := by simp only [nextO, newO_next _ _ 0 s.next, ho]
    have w1 : IntKind.i64.wrap (r.num + 1) = r.num + 1 := wrap_i64_id (by omega) (by omega)
    rw [eb, en]
    by_cases hz : 0 < r.num
    · simp -implicitDefEqProofs only [go_sem, seval, sk, Rec.cells, hz, w1, opS, openD]
    · have hz0 : r.num = 0 := by omega
      simp -implicitDefEqProofs only [go_sem, seval, sk, Rec.cells, hz0, opS, openD]
theorem s_open_10 (s : Slt) (hs : s.fine) (hc : s.d0.check = 0) (hc1 : s.d1.check = 0) (hd : s.d0.down = true) (hd1 : s.d1.down = false) : Spec Try.prog 55 [.agg s.cells] [] (resV ((opS (openS s)).map AV.ofT)) := by
  refine spec_k (hold mixed) b_slots_Open (opS (openS s)) ?_
  have ev : openS s = (⟨openD s.d0, openD s.d1, nextO ⟨openD s.d0, openD s.d1, 0⟩⟩, 0) := if_pos ⟨hc, hc1⟩
  have hN := s_slots_newest ⟨openD s.d0, openD s.d1, s.next⟩ (openD_check hc) (openD_check hc1)
  rw [ev]
  simp -implicitDefEqProofs only [go_sem, seval, sk]
  refine loop_u 3 (ln_step (by simp -implicitDefEqProofs only [go_sem, seval]; rfl) fun R hR => ?_)
  simp -implicitDefEqProofs only [go_sem, seval, sk]
  refine call_k (s_disk_Check s.d0 hs.1) ?_
  simp -implicitDefEqProofs only [go_sem, seval, sk, hc, hd]
  refine call_k (s_disk_Start s.d0 hs.1) ?_ (by simp -implicitDefEqProofs only [go_sem, seval, Dev.cells, hd])
  simp -implicitDefEqProofs only [go_sem, seval, sk, opR]
  refine call_k (s_disk_Sync s.d0.start.1 (start_small _)) ?_
  rw [start_open hc hd]
  simp -implicitDefEqProofs only [go_sem, seval, sk, opR, openD]
  refine hR _ (ln_step (by simp -implicitDefEqProofs only [go_sem, seval]; rfl) fun R2 hR2 => ?_)
  simp -implicitDefEqProofs only [go_sem, seval, sk]
  refine call_k (s_disk_Check s.d1 hs.2.1) ?_
  simp -implicitDefEqProofs only [go_sem, seval, sk, hc1, hd1]
  refine call_k (s_disk_Sync s.d1 hs.2.1) ?_ (by simp -implicitDefEqProofs only [go_sem, seval, Dev.cells, hd1])
  rw [sync_open hc1 hd1]
  simp -implicitDefEqProofs only [go_sem, seval, sk, opR, openD]
  refine hR2 _ (ln_step (by simp -implicitDefEqProofs only [go_sem, seval]; rfl) fun R3 hR3 => ?_)
  simp -implicitDefEqProofs only [go_sem, seval, sk]
  refine call_k hN ?_ (by simp -implicitDefEqProofs only [go_sem, seval, openD])
  cases ho : newO ⟨openD s.d0, openD s.d1, s.next⟩ with
  | none =>
    have eb : newB ⟨openD s.d0, openD s.d1, s.next⟩ = ⟨-1, []⟩ := by simp [newB, ho]
    have en : nextO ⟨openD s.d0, openD s.d1, 0⟩ = 1 := by simp only [nextO, newO_next _ _ 0 s.next, ho]
    rw [eb, en]
    simp -implicitDefEqProofs only [go_sem, seval, sk, Rec.cells, opS, openD]
  | some r =>
    obtain ⟨p0, p1, p2⟩ := newO_ok ho
    have eb : newB ⟨openD s.d0, openD s.d1, s.next⟩ = r := by simp [newB, ho]
    have en : nextO ⟨openD s.d0, openD s.d1, 0⟩ = r.num + 1 := by simp only [nextO, newO_next _ _ 0 s.next, ho]
    have w1 : IntKind.i64.wrap (r.num + 1) = r.num + 1 := wrap_i64_id (by omega) (by omega)
    rw [eb, en]
    by_cases hz : 0 < r.num
    · simp -implicitDefEqProofs only [go_sem, seval, sk, Rec.cells, hz, w1, opS, openD]
    · have hz0 : r.num = 0 := by omega
      simp -implicitDefEqProofs only [go_sem, seval, sk, Rec.cells, hz0, opS, openD]
theorem s_open_11 (s : Slt) (hs : s.fine) (hc : s.d0.check = 0) (hc1 : s.d1.check = 0) (hd : s.d0.down = true) (hd1 : s.d1.down = true) : Spec Try.prog 55 [.agg s.cells] [] (resV ((opS (openS s)).map AV.ofT)) := by
  refine spec_k (hold mixed) b_slots_Open (opS (openS s)) ?_
  have ev : openS s = (⟨openD s.d0, openD s.d1, nextO ⟨openD s.d0, openD s.d1, 0⟩⟩, 0) := if_pos ⟨hc, hc1⟩
  have hN := s_slots_newest ⟨openD s.d0, openD s.d1, s.next⟩ (openD_check hc) (openD_check hc1)
  rw [ev]
  simp -implicitDefEqProofs only [go_sem, seval, sk]
  refine loop_u 3 (ln_step (by simp -implicitDefEqProofs only [go_sem, seval]; rfl) fun R hR => ?_)
  simp -implicitDefEqProofs only [go_sem, seval, sk]
  refine call_k (s_disk_Check s.d0 hs.1) ?_
  simp -implicitDefEqProofs only [go_sem, seval, sk, hc, hd]
  refine call_k (s_disk_Start s.d0 hs.1) ?_ (by simp -implicitDefEqProofs only [go_sem, seval, Dev.cells, hd])
  simp -implicitDefEqProofs only [go_sem, seval, sk, opR]
  refine call_k (s_disk_Sync s.d0.start.1 (start_small _)) ?_
  rw [start_open hc hd]
  simp -implicitDefEqProofs only [go_sem, seval, sk, opR, openD]
  refine hR _ (ln_step (by simp -implicitDefEqProofs only [go_sem, seval]; rfl) fun R2 hR2 => ?_)
  simp -implicitDefEqProofs only [go_sem, seval, sk]
  refine call_k (s_disk_Check s.d1 hs.2.1) ?_
  simp -implicitDefEqProofs only [go_sem, seval, sk, hc1, hd1]
  refine call_k (s_disk_Start s.d1 hs.2.1) ?_ (by simp -implicitDefEqProofs only [go_sem, seval, Dev.cells, hd1])
  simp -implicitDefEqProofs only [go_sem, seval, sk, opR]
  refine call_k (s_disk_Sync s.d1.start.1 (start_small _)) ?_
  rw [start_open hc1 hd1]
  simp -implicitDefEqProofs only [go_sem, seval, sk, opR, openD]
  refine hR2 _ (ln_step (by simp -implicitDefEqProofs only [go_sem, seval]; rfl) fun R3 hR3 => ?_)
  simp -implicitDefEqProofs only [go_sem, seval, sk]
  refine call_k hN ?_ (by simp -implicitDefEqProofs only [go_sem, seval, openD])
  cases ho : newO ⟨openD s.d0, openD s.d1, s.next⟩ with
  | none =>
    have eb : newB ⟨openD s.d0, openD s.d1, s.next⟩ = ⟨-1, []⟩ := by simp [newB, ho]
    have en : nextO ⟨openD s.d0, openD s.d1, 0⟩ = 1 := by simp only [nextO, newO_next _ _ 0 s.next, ho]
    rw [eb, en]
    simp -implicitDefEqProofs only [go_sem, seval, sk, Rec.cells, opS, openD]
  | some r =>
    obtain ⟨p0, p1, p2⟩ := newO_ok ho
    have eb : newB ⟨openD s.d0, openD s.d1, s.next⟩ = r := by simp [newB, ho]
    have en : nextO ⟨openD s.d0, openD s.d1, 0⟩ = r.num + 1 := by simp only [nextO, newO_next _ _ 0 s.next, ho]
    have w1 : IntKind.i64.wrap (r.num + 1) = r.num + 1 := wrap_i64_id (by omega) (by omega)
    rw [eb, en]
    by_cases hz : 0 < r.num
    · simp -implicitDefEqProofs only [go_sem, seval, sk, Rec.cells, hz, w1, opS, openD]
    · have hz0 : r.num = 0 := by omega
      simp -implicitDefEqProofs only [go_sem, seval, sk, Rec.cells, hz0, opS, openD]
theorem s_slots_Open (s : Slt) (hs : s.fine) : Spec Try.prog 55 [.agg s.cells] [] (resV ((opS (openS s)).map AV.ofT)) := by
  have c8 : ∀ d : Dev, d.check = 8 ∨ d.check = 0 := fun d => by unfold Dev.check; split <;> simp
  rcases c8 s.d0 with hc | hc
  · refine spec_k (hold mixed) b_slots_Open (opS (openS s)) ?_
    have ev : openS s = (zeroS, 8) := if_neg (by omega)
    rw [ev]
    simp -implicitDefEqProofs only [go_sem, seval, sk]
    refine loop_u 3 (ln_step (by simp -implicitDefEqProofs only [go_sem, seval]; rfl) fun R hR => ?_)
    simp -implicitDefEqProofs only [go_sem, seval, sk]
    refine call_k (s_disk_Check s.d0 hs.1) ?_
    simp -implicitDefEqProofs only [go_sem, seval, sk, hc, opS, zeroS_cells]
    try rfl
  rcases c8 s.d1 with hc1 | hc1
  · refine spec_k (hold mixed) b_slots_Open (opS (openS s)) ?_
    have ev : openS s = (zeroS, 8) := if_neg (by omega)
    rw [ev]
    simp -implicitDefEqProofs only [go_sem, seval, sk]
    refine loop_u 3 (ln_step (by simp -implicitDefEqProofs only [go_sem, seval]; rfl) fun R hR => ?_)
    simp -implicitDefEqProofs only [go_sem, seval, sk]
    refine call_k (s_disk_Check s.d0 hs.1) ?_
    cases hd : s.d0.down with
    | false =>
      simp -implicitDefEqProofs only [go_sem, seval, sk, hc]
      refine call_k (s_disk_Sync s.d0 hs.1) ?_ (by simp -implicitDefEqProofs only [go_sem, seval, Dev.cells, hd])
      rw [sync_open hc hd]
      simp -implicitDefEqProofs only [go_sem, seval, sk, opR, openD]
      refine hR _ (ln_step (by simp -implicitDefEqProofs only [go_sem, seval]; rfl) fun R2 hR2 => ?_)
      simp -implicitDefEqProofs only [go_sem, seval, sk]
      refine call_k (s_disk_Check s.d1 hs.2.1) ?_
      simp -implicitDefEqProofs only [go_sem, seval, sk, hc1, opS, zeroS_cells]
      try rfl
    | true =>
      simp -implicitDefEqProofs only [go_sem, seval, sk, hc]
      refine call_k (s_disk_Start s.d0 hs.1) ?_ (by simp -implicitDefEqProofs only [go_sem, seval, Dev.cells, hd])
      simp -implicitDefEqProofs only [go_sem, seval, sk, opR]
      refine call_k (s_disk_Sync s.d0.start.1 (start_small _)) ?_
      rw [start_open hc hd]
      simp -implicitDefEqProofs only [go_sem, seval, sk, opR, openD]
      refine hR _ (ln_step (by simp -implicitDefEqProofs only [go_sem, seval]; rfl) fun R2 hR2 => ?_)
      simp -implicitDefEqProofs only [go_sem, seval, sk]
      refine call_k (s_disk_Check s.d1 hs.2.1) ?_
      simp -implicitDefEqProofs only [go_sem, seval, sk, hc1, opS, zeroS_cells]
      try rfl
  cases hd : s.d0.down <;> cases hd1 : s.d1.down
  · exact s_open_00 s hs hc hc1 hd hd1
  · exact s_open_01 s hs hc hc1 hd hd1
  · exact s_open_10 s hs hc hc1 hd hd1
  · exact s_open_11 s hs hc hc1 hd hd1
end Go.Proofs.Ytlfpafdkegnkoaa.Pm
