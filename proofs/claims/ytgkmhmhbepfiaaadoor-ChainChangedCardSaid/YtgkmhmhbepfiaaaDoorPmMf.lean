/- Texts of this proof in one file: PmJk, PmJa, PmJb, PmJc, PmJd. No law of Go's is stated here. -/
import Derived.Test.YtgkmhmhbepfiaaaDoorPmMd
import Derived.Test.YtgkmhmhbepfiaaaDoorPmMc
import Derived.Test.YtgkmhmhbepfiaaaDoorPmHo
set_option linter.all false
set_option maxRecDepth 100000
set_option maxHeartbeats 2000000
namespace Go.Proofs.YtgkmhmhbepfiaaaDoor.Pm
open Go Go.RowKit
def c_ref44_GreatBytes : C := (.seq (.seq (.reg ([⟨some 2, .assign (.const (.bool false)), none⟩])) (.keep [0])) (.seq (.seq (.seq (.reg ([⟨some 3, .assign (.const (.int .i64 0)), none⟩])) (.keep [0, 3])) (.block 0 (.loop [] [0, 3] (.seq (.seq (.seq (.reg ([⟨some 4, .move (.tmp 3), none⟩, ⟨some 5, .move (.tmp 0), none⟩, ⟨some 6, .call { callee := .builtin .len, args := #[(.tmp 5)], argTypes := #[54] }, none⟩, ⟨some 7, .binOp .lss 3 (.tmp 4) (.tmp 6) 3, none⟩])) (.keep [0, 3, 7])) (.cond (.tmp 7) .skip (.exit 0))) (.seq (.block 1 (.seq (.seq (.reg ([⟨some 10, .move (.tmp 0), none⟩, ⟨some 11, .move (.tmp 3), none⟩, ⟨some 12, .indexAddr 54 (.tmp 10) (.tmp 11), none⟩, ⟨some 13, .load 22 (.tmp 12), none⟩, ⟨some 14, .call { callee := .builtin .len, args := #[(.tmp 13)], argTypes := #[22] }, none⟩, ⟨some 15, .binOp .gtr 3 (.tmp 14) (.const (.int .i64 300)) 3, none⟩])) (.keep [0, 3, 15])) (.cond (.tmp 15) (.seq (.seq (.reg ([⟨some 2, .assign (.const (.bool true)), none⟩])) (.keep [2])) .ret) .skip))) (.seq (.reg ([⟨some 8, .move (.tmp 3), none⟩, ⟨some 9, .binOp .add 3 (.tmp 8) (.const (.int .i64 1)) 3, none⟩, ⟨some 3, .assign (.tmp 9), none⟩])) (.keep [0, 3]))))))) (.seq (.seq (.reg ([⟨some 16, .move (.tmp 0), none⟩, ⟨some 17, .call { callee := .builtin .len, args := #[(.tmp 16)], argTypes := #[54] }, none⟩, ⟨some 18, .binOp .gtr 3 (.tmp 17) (.const (.int .i64 12)) 3, none⟩, ⟨some 19, .move (.tmp 18), none⟩, ⟨some 20, .move (.tmp 0), some (19, true)⟩, ⟨some 21, .call { callee := .builtin .len, args := #[(.tmp 20)], argTypes := #[54] }, some (19, true)⟩, ⟨some 22, .binOp .leq 3 (.tmp 21) (.const (.int .i64 40)) 3, some (19, true)⟩, ⟨some 23, .pick (.tmp 19) (.tmp 22) (.const (.bool false)), none⟩, ⟨some 24, .move (.tmp 23), none⟩, ⟨some 25, .move (.tmp 0), some (24, false)⟩, ⟨some 26, .call { callee := .builtin .len, args := #[(.tmp 25)], argTypes := #[54] }, some (24, false)⟩, ⟨some 27, .binOp .gtr 3 (.tmp 26) (.const (.int .i64 50)) 3, some (24, false)⟩, ⟨some 28, .pick (.tmp 24) (.const (.bool true)) (.tmp 27), none⟩, ⟨some 2, .assign (.tmp 28), none⟩])) (.keep [2])) .ret)))
attribute [go_sem ↓] c_ref44_GreatBytes
def h_ref44_GreatBytes : List Hint := [⟨[], [0], []⟩, ⟨[], [0, 3], []⟩, ⟨[], [0, 3], []⟩, ⟨[], [0, 3, 7], []⟩, ⟨[], [0, 3, 15], []⟩, ⟨[], [2], []⟩, ⟨[], [0, 3], []⟩, ⟨[], [2], []⟩]
theorem b_ref44_GreatBytes : Body Tryd.prog 28 [] h_ref44_GreatBytes c_ref44_GreatBytes 29 [.tmp 2] := body_of Tryd.func28 (by kernel_rfl) (by kernel_rfl) (by kernel_rfl) (by kernel_rfl)
def c_chain_Make : C := (.seq (.seq (.reg ([⟨some 2, .assign (.const (.slice none 0 0)), none⟩, ⟨some 3, .assign (.const (.int .i64 0)), none⟩])) (.keep [0])) (.seq (.seq (.seq (.reg ([⟨some 10, .move (.tmp 0), none⟩, ⟨some 11, .call { callee := .builtin .len, args := #[(.tmp 10)], argTypes := #[54] }, none⟩, ⟨some 12, .binOp .gtr 3 (.tmp 11) (.const (.int .i64 40)) 3, none⟩])) (.keep [0, 12])) (.cond (.tmp 12) (.seq (.seq (.reg ([⟨some 2, .assign (.const (.slice none 0 0)), none⟩, ⟨some 3, .assign (.const (.int .i64 4)), none⟩])) (.keep [2, 3])) .ret) .skip)) (.seq (.seq (.reg ([⟨some 4, .assign (.const (.slice none 0 0)), none⟩])) (.keep [0, 4])) (.seq (.seq (.reg ([⟨some 5, .alloc 26, none⟩])) (.keep [0, 4, 5])) (.seq (.seq (.seq (.reg ([⟨some 13, .move (.tmp 0), none⟩, ⟨some 14, .call { callee := .builtin .len, args := #[(.tmp 13)], argTypes := #[54] }, none⟩, ⟨some 15, .move (.const (.int .i64 0)), none⟩])) (.keep [4, 5, 13, 14, 15])) (.block 0 (.loop [(4, 33)] [4, 5, 13, 14, 15] (.seq (.seq (.reg ([⟨some 16, .binOp .lss 3 (.tmp 15) (.tmp 14) 3, none⟩])) (.keep [4, 5, 13, 14, 15, 16])) (.seq (.cond (.tmp 16) .skip (.exit 0)) (.seq (.block 1 (.seq (.seq (.reg ([⟨some 17, .move (.tmp 15), none⟩, ⟨some 18, .indexAddr 54 (.tmp 13) (.tmp 15), none⟩, ⟨some 19, .load 22 (.tmp 18), none⟩, ⟨some 6, .assign (.tmp 17), none⟩, ⟨some 7, .assign (.tmp 19), none⟩])) (.keep [4, 5, 6, 7, 13, 14, 15])) (.seq (.seq (.seq (.reg ([⟨some 20, .move (.tmp 7), none⟩, ⟨some 21, .call { callee := .builtin .len, args := #[(.tmp 20)], argTypes := #[22] }, none⟩, ⟨some 22, .binOp .gtr 3 (.tmp 21) (.const (.int .i64 200)) 3, none⟩])) (.keep [4, 5, 6, 7, 13, 14, 15, 22])) (.cond (.tmp 22) (.seq (.seq (.reg ([⟨some 2, .assign (.const (.slice none 0 0)), none⟩, ⟨some 3, .assign (.const (.int .i64 8)), none⟩])) (.keep [2, 3])) .ret) .skip)) (.seq (.seq (.reg ([⟨some 24, .load 26 (.tmp 5), none⟩, ⟨some 25, .move (.tmp 6), none⟩, ⟨some 26, .move (.tmp 7), none⟩, ⟨some 27, .call { callee := .value (.func 62), args := #[(.tmp 24), (.tmp 25), (.tmp 26)], argTypes := #[26, 3, 22] }, none⟩, ⟨some 23, .move (.tmp 27), none⟩, ⟨some 28, .extract (.tmp 23) 0, none⟩, ⟨some 29, .extract (.tmp 23) 1, none⟩, ⟨some 8, .alloc 26, none⟩, ⟨none, .store 26 (.tmp 8) (.tmp 28), none⟩, ⟨some 9, .assign (.tmp 29), none⟩])) (.keep [4, 5, 7, 8, 9, 13, 14, 15])) (.seq (.seq (.seq (.reg ([⟨some 30, .move (.tmp 9), none⟩, ⟨some 31, .binOp .neq 27 (.tmp 30) (.const (.int .i64 0)) 27, none⟩])) (.keep [4, 5, 7, 8, 9, 13, 14, 15, 31])) (.cond (.tmp 31) (.seq (.seq (.reg ([⟨some 32, .move (.tmp 9), none⟩, ⟨some 2, .assign (.const (.slice none 0 0)), none⟩, ⟨some 3, .assign (.tmp 32), none⟩])) (.keep [2, 3])) .ret) .skip)) (.seq (.seq (.draw ([⟨⟨some 33, .move (.tmp 4), none⟩, []⟩, ⟨⟨some 34, .move (.tmp 7), none⟩, [0]⟩, ⟨⟨some 35, .call { callee := .value (.func 63), args := #[(.tmp 34)], argTypes := #[22] }, none⟩, [0]⟩, ⟨⟨some 36, .load 26 (.tmp 8), none⟩, [0, 1, 2]⟩, ⟨⟨some 37, .build 64 #[(0, (.tmp 35)), (1, (.tmp 36))], none⟩, [0]⟩, ⟨⟨some 38, .buildSlice 56 1 #[(0, (.tmp 37))], none⟩, [0]⟩, ⟨⟨some 39, .call { callee := .builtin .append, args := #[(.tmp 33), (.tmp 38)], argTypes := #[56, 56] }, none⟩, []⟩, ⟨⟨some 4, .assign (.tmp 39), none⟩, []⟩])) (.keep [4, 5, 8, 13, 14, 15])) (.seq (.reg ([⟨some 40, .load 26 (.tmp 8), none⟩, ⟨none, .store 26 (.tmp 5) (.tmp 40), none⟩])) (.keep [4, 5, 13, 14, 15])))))))) (.seq (.reg ([⟨some 41, .binOp .add 3 (.tmp 15) (.const (.int .i64 1)) 3, none⟩, ⟨some 15, .move (.tmp 41), none⟩])) (.keep [4, 5, 13, 14, 15])))))))) (.seq (.seq (.reg ([⟨some 42, .move (.tmp 4), none⟩, ⟨some 2, .assign (.tmp 42), none⟩, ⟨some 3, .assign (.const (.int .i64 0)), none⟩])) (.keep [2, 3])) .ret))))))
attribute [go_sem ↓] c_chain_Make
def h_chain_Make : List Hint := [⟨[], [0], []⟩, ⟨[], [0, 12], []⟩, ⟨[], [2, 3], []⟩, ⟨[], [0, 4], []⟩, ⟨[], [0, 4, 5], []⟩, ⟨[], [4, 5, 13, 14, 15], []⟩, ⟨[(4, 33)], [4, 5, 13, 14, 15], []⟩, ⟨[], [4, 5, 13, 14, 15, 16], []⟩, ⟨[], [4, 5, 6, 7, 13, 14, 15], []⟩, ⟨[], [4, 5, 6, 7, 13, 14, 15, 22], []⟩, ⟨[], [2, 3], []⟩, ⟨[], [4, 5, 7, 8, 9, 13, 14, 15], []⟩, ⟨[], [4, 5, 7, 8, 9, 13, 14, 15, 31], []⟩, ⟨[], [2, 3], []⟩, ⟨[], [4, 5, 8, 13, 14, 15], []⟩, ⟨[], [4, 5, 13, 14, 15], []⟩, ⟨[], [4, 5, 13, 14, 15], []⟩, ⟨[], [2, 3], []⟩]
theorem b_chain_Make : Body Tryd.prog 29 [] h_chain_Make c_chain_Make 43 [.tmp 2, .tmp 3] := body_of Tryd.func29 (by kernel_rfl) (by kernel_rfl) (by kernel_rfl) (by kernel_rfl)
def c_chain_First : C := (.seq (.seq (.reg ([⟨some 2, .assign (.const (.int .i64 0)), none⟩, ⟨some 3, .assign (.const (.int .i64 0)), none⟩])) (.keep [0])) (.seq (.seq (.seq (.reg ([⟨some 10, .move (.tmp 0), none⟩, ⟨some 11, .call { callee := .value (.func 41), args := #[(.tmp 10)], argTypes := #[56] }, none⟩, ⟨some 4, .assign (.tmp 11), none⟩])) (.keep [0, 4])) (.seq (.seq (.reg ([⟨some 12, .move (.tmp 4), none⟩, ⟨some 13, .binOp .neq 27 (.tmp 12) (.const (.int .i64 0)) 27, none⟩])) (.keep [0, 4, 13])) (.cond (.tmp 13) (.seq (.seq (.reg ([⟨some 14, .move (.tmp 4), none⟩, ⟨some 2, .assign (.const (.int .i64 0)), none⟩, ⟨some 3, .assign (.tmp 14), none⟩])) (.keep [2, 3])) .ret) .skip))) (.seq (.seq (.reg ([⟨some 5, .alloc 26, none⟩])) (.keep [0, 5])) (.seq (.seq (.seq (.reg ([⟨some 15, .move (.tmp 0), none⟩, ⟨some 16, .call { callee := .builtin .len, args := #[(.tmp 15)], argTypes := #[56] }, none⟩, ⟨some 17, .move (.const (.int .i64 0)), none⟩])) (.keep [5, 15, 16, 17])) (.block 0 (.loop [] [5, 15, 16, 17] (.seq (.seq (.reg ([⟨some 18, .binOp .lss 3 (.tmp 17) (.tmp 16) 3, none⟩])) (.keep [5, 15, 16, 17, 18])) (.seq (.cond (.tmp 18) .skip (.exit 0)) (.seq (.block 1 (.seq (.seq (.reg ([⟨some 19, .move (.tmp 17), none⟩, ⟨some 20, .indexAddr 56 (.tmp 15) (.tmp 17), none⟩, ⟨some 21, .load 64 (.tmp 20), none⟩, ⟨some 7, .alloc 64, none⟩, ⟨some 6, .assign (.tmp 19), none⟩, ⟨none, .store 64 (.tmp 7) (.tmp 21), none⟩])) (.keep [5, 6, 7, 15, 16, 17])) (.seq (.seq (.reg ([⟨some 23, .load 26 (.tmp 5), none⟩, ⟨some 24, .move (.tmp 6), none⟩, ⟨some 25, .fieldAddr 64 (.tmp 7) 0, none⟩, ⟨some 26, .load 22 (.tmp 25), none⟩, ⟨some 27, .call { callee := .value (.func 62), args := #[(.tmp 23), (.tmp 24), (.tmp 26)], argTypes := #[26, 3, 22] }, none⟩, ⟨some 22, .move (.tmp 27), none⟩, ⟨some 28, .extract (.tmp 22) 0, none⟩, ⟨some 29, .extract (.tmp 22) 1, none⟩, ⟨some 8, .alloc 26, none⟩, ⟨none, .store 26 (.tmp 8) (.tmp 28), none⟩, ⟨some 9, .assign (.tmp 29), none⟩])) (.keep [5, 6, 7, 8, 9, 15, 16, 17])) (.seq (.seq (.seq (.reg ([⟨some 30, .move (.tmp 9), none⟩, ⟨some 31, .binOp .neq 27 (.tmp 30) (.const (.int .i64 0)) 27, none⟩])) (.keep [5, 6, 7, 8, 9, 15, 16, 17, 31])) (.cond (.tmp 31) (.seq (.seq (.reg ([⟨some 32, .move (.tmp 9), none⟩, ⟨some 2, .assign (.const (.int .i64 0)), none⟩, ⟨some 3, .assign (.tmp 32), none⟩])) (.keep [2, 3])) .ret) .skip)) (.seq (.seq (.seq (.reg ([⟨some 33, .load 26 (.tmp 8), none⟩, ⟨some 34, .fieldAddr 64 (.tmp 7) 1, none⟩, ⟨some 35, .load 26 (.tmp 34), none⟩, ⟨some 36, .binOp .neq 26 (.tmp 33) (.tmp 35) 26, none⟩])) (.keep [5, 6, 8, 15, 16, 17, 36])) (.cond (.tmp 36) (.seq (.seq (.reg ([⟨some 37, .move (.tmp 6), none⟩, ⟨some 2, .assign (.tmp 37), none⟩, ⟨some 3, .assign (.const (.int .i64 0)), none⟩])) (.keep [2, 3])) .ret) .skip)) (.seq (.reg ([⟨some 38, .load 26 (.tmp 8), none⟩, ⟨none, .store 26 (.tmp 5) (.tmp 38), none⟩])) (.keep [5, 15, 16, 17]))))))) (.seq (.reg ([⟨some 39, .binOp .add 3 (.tmp 17) (.const (.int .i64 1)) 3, none⟩, ⟨some 17, .move (.tmp 39), none⟩])) (.keep [5, 15, 16, 17])))))))) (.seq (.seq (.reg ([⟨some 2, .assign (.const (.int .i64 (-1))), none⟩, ⟨some 3, .assign (.const (.int .i64 0)), none⟩])) (.keep [2, 3])) .ret)))))
attribute [go_sem ↓] c_chain_First
def h_chain_First : List Hint := [⟨[], [0], []⟩, ⟨[], [0, 4], []⟩, ⟨[], [0, 4, 13], []⟩, ⟨[], [2, 3], []⟩, ⟨[], [0, 5], []⟩, ⟨[], [5, 15, 16, 17], []⟩, ⟨[], [5, 15, 16, 17], []⟩, ⟨[], [5, 15, 16, 17, 18], []⟩, ⟨[], [5, 6, 7, 15, 16, 17], []⟩, ⟨[], [5, 6, 7, 8, 9, 15, 16, 17], []⟩, ⟨[], [5, 6, 7, 8, 9, 15, 16, 17, 31], []⟩, ⟨[], [2, 3], []⟩, ⟨[], [5, 6, 8, 15, 16, 17, 36], []⟩, ⟨[], [2, 3], []⟩, ⟨[], [5, 15, 16, 17], []⟩, ⟨[], [5, 15, 16, 17], []⟩, ⟨[], [2, 3], []⟩]
theorem b_chain_First : Body Tryd.prog 30 [] h_chain_First c_chain_First 40 [.tmp 2, .tmp 3] := body_of Tryd.func30 (by kernel_rfl) (by kernel_rfl) (by kernel_rfl) (by kernel_rfl)
def c_chain_Head : C := (.seq (.seq (.reg ([⟨some 2, .alloc 26, none⟩, ⟨some 3, .assign (.const (.int .i64 0)), none⟩])) (.keep [0, 2])) (.seq (.seq (.reg ([⟨some 7, .move (.tmp 0), none⟩, ⟨some 8, .call { callee := .value (.func 30), args := #[(.tmp 7)], argTypes := #[56] }, none⟩, ⟨some 6, .move (.tmp 8), none⟩, ⟨some 9, .extract (.tmp 6) 0, none⟩, ⟨some 10, .extract (.tmp 6) 1, none⟩, ⟨some 4, .assign (.tmp 9), none⟩, ⟨some 5, .assign (.tmp 10), none⟩])) (.keep [0, 2, 4, 5])) (.seq (.seq (.seq (.reg ([⟨some 11, .move (.tmp 5), none⟩, ⟨some 12, .binOp .neq 27 (.tmp 11) (.const (.int .i64 0)) 27, none⟩])) (.keep [0, 2, 4, 5, 12])) (.cond (.tmp 12) (.seq (.seq (.reg ([⟨some 13, .build 26 #[], none⟩, ⟨some 14, .move (.tmp 5), none⟩, ⟨none, .store 26 (.tmp 2) (.tmp 13), none⟩, ⟨some 3, .assign (.tmp 14), none⟩])) (.keep [2, 3])) .ret) .skip)) (.seq (.seq (.seq (.reg ([⟨some 15, .move (.tmp 4), none⟩, ⟨some 16, .binOp .geq 3 (.tmp 15) (.const (.int .i64 0)) 3, none⟩])) (.keep [0, 2, 16])) (.cond (.tmp 16) (.seq (.seq (.reg ([⟨some 17, .build 26 #[], none⟩, ⟨none, .store 26 (.tmp 2) (.tmp 17), none⟩, ⟨some 3, .assign (.const (.int .i64 22)), none⟩])) (.keep [2, 3])) .ret) .skip)) (.seq (.seq (.seq (.reg ([⟨some 18, .move (.tmp 0), none⟩, ⟨some 19, .call { callee := .builtin .len, args := #[(.tmp 18)], argTypes := #[56] }, none⟩, ⟨some 20, .binOp .eql 3 (.tmp 19) (.const (.int .i64 0)) 3, none⟩])) (.keep [0, 2, 20])) (.cond (.tmp 20) (.seq (.seq (.reg ([⟨some 21, .build 26 #[], none⟩, ⟨none, .store 26 (.tmp 2) (.tmp 21), none⟩, ⟨some 3, .assign (.const (.int .i64 0)), none⟩])) (.keep [2, 3])) .ret) .skip)) (.seq (.seq (.reg ([⟨some 22, .move (.tmp 0), none⟩, ⟨some 23, .move (.tmp 0), none⟩, ⟨some 24, .call { callee := .builtin .len, args := #[(.tmp 23)], argTypes := #[56] }, none⟩, ⟨some 25, .binOp .sub 3 (.tmp 24) (.const (.int .i64 1)) 3, none⟩, ⟨some 26, .indexAddr 56 (.tmp 22) (.tmp 25), none⟩, ⟨some 27, .fieldAddr 64 (.tmp 26) 1, none⟩, ⟨some 28, .load 26 (.tmp 27), none⟩, ⟨none, .store 26 (.tmp 2) (.tmp 28), none⟩, ⟨some 3, .assign (.const (.int .i64 0)), none⟩])) (.keep [2, 3])) .ret))))))
attribute [go_sem ↓] c_chain_Head
def h_chain_Head : List Hint := [⟨[], [0, 2], []⟩, ⟨[], [0, 2, 4, 5], []⟩, ⟨[], [0, 2, 4, 5, 12], []⟩, ⟨[], [2, 3], []⟩, ⟨[], [0, 2, 16], []⟩, ⟨[], [2, 3], []⟩, ⟨[], [0, 2, 20], []⟩, ⟨[], [2, 3], []⟩, ⟨[], [2, 3], []⟩]
theorem b_chain_Head : Body Tryd.prog 31 [] h_chain_Head c_chain_Head 29 [.cell 2 26, .tmp 3] := body_of Tryd.func31 (by kernel_rfl) (by kernel_rfl) (by kernel_rfl) (by kernel_rfl)
def c_ref44_Before : C := (.seq (.seq (.reg ([⟨some 4, .alloc 26, none⟩])) (.keep [0, 1, 4])) (.seq (.seq (.seq (.reg ([⟨some 5, .move (.tmp 1), none⟩, ⟨some 6, .binOp .eql 3 (.tmp 5) (.const (.int .i64 0)) 3, none⟩])) (.keep [0, 1, 4, 6])) (.cond (.tmp 6) (.seq (.seq (.reg ([⟨some 7, .build 26 #[], none⟩, ⟨none, .store 26 (.tmp 4) (.tmp 7), none⟩])) (.keep [4])) .ret) .skip)) (.seq (.seq (.reg ([⟨some 8, .move (.tmp 0), none⟩, ⟨some 9, .move (.tmp 1), none⟩, ⟨some 10, .binOp .sub 3 (.tmp 9) (.const (.int .i64 1)) 3, none⟩, ⟨some 11, .indexAddr 56 (.tmp 8) (.tmp 10), none⟩, ⟨some 12, .fieldAddr 64 (.tmp 11) 1, none⟩, ⟨some 13, .load 26 (.tmp 12), none⟩, ⟨none, .store 26 (.tmp 4) (.tmp 13), none⟩])) (.keep [4])) .ret)))
attribute [go_sem ↓] c_ref44_Before
def h_ref44_Before : List Hint := [⟨[], [0, 1, 4], []⟩, ⟨[], [0, 1, 4, 6], []⟩, ⟨[], [4], []⟩, ⟨[], [4], []⟩]
theorem b_ref44_Before : Body Tryd.prog 32 [] h_ref44_Before c_ref44_Before 14 [.cell 4 26] := body_of Tryd.func32 (by kernel_rfl) (by kernel_rfl) (by kernel_rfl) (by kernel_rfl)
def c_ref44_Twin : C := (.seq (.seq (.reg ([⟨some 2, .assign (.const (.slice none 0 0)), none⟩])) (.keep [0])) (.seq (.seq (.reg ([⟨some 3, .assign (.const (.slice none 0 0)), none⟩])) (.keep [0, 3])) (.seq (.seq (.seq (.reg ([⟨some 4, .assign (.const (.int .i64 0)), none⟩])) (.keep [0, 3, 4])) (.block 0 (.loop [(3, 33)] [0, 3, 4] (.seq (.seq (.seq (.reg ([⟨some 5, .move (.tmp 4), none⟩, ⟨some 6, .move (.tmp 0), none⟩, ⟨some 7, .call { callee := .builtin .len, args := #[(.tmp 6)], argTypes := #[56] }, none⟩, ⟨some 8, .binOp .lss 3 (.tmp 5) (.tmp 7) 3, none⟩])) (.keep [0, 3, 4, 8])) (.cond (.tmp 8) .skip (.exit 0))) (.seq (.block 1 (.seq (.draw ([⟨⟨some 11, .move (.tmp 3), none⟩, []⟩, ⟨⟨some 12, .buildSlice 22 0 #[], none⟩, [0]⟩, ⟨⟨some 13, .move (.tmp 0), none⟩, [0, 1]⟩, ⟨⟨some 14, .move (.tmp 4), none⟩, [0, 1, 2]⟩, ⟨⟨some 15, .indexAddr 56 (.tmp 13) (.tmp 14), none⟩, [0, 1]⟩, ⟨⟨some 16, .fieldAddr 64 (.tmp 15) 0, none⟩, [0, 1]⟩, ⟨⟨some 17, .load 22 (.tmp 16), none⟩, [0, 1]⟩, ⟨⟨some 18, .call { callee := .builtin .append, args := #[(.tmp 12), (.tmp 17)], argTypes := #[22, 22] }, none⟩, [0]⟩, ⟨⟨some 19, .move (.tmp 0), none⟩, [0, 1, 2, 3, 4, 5, 6, 7]⟩, ⟨⟨some 20, .move (.tmp 4), none⟩, [0, 1, 2, 3, 4, 5, 6, 7, 8]⟩, ⟨⟨some 21, .indexAddr 56 (.tmp 19) (.tmp 20), none⟩, [0, 1, 2, 3, 4, 5, 6, 7]⟩, ⟨⟨some 22, .fieldAddr 64 (.tmp 21) 1, none⟩, [0, 1, 2, 3, 4, 5, 6, 7]⟩, ⟨⟨some 23, .load 26 (.tmp 22), none⟩, [0, 1, 2, 3, 4, 5, 6, 7]⟩, ⟨⟨some 24, .build 64 #[(0, (.tmp 18)), (1, (.tmp 23))], none⟩, [0]⟩, ⟨⟨some 25, .buildSlice 56 1 #[(0, (.tmp 24))], none⟩, [0]⟩, ⟨⟨some 26, .call { callee := .builtin .append, args := #[(.tmp 11), (.tmp 25)], argTypes := #[56, 56] }, none⟩, []⟩, ⟨⟨some 3, .assign (.tmp 26), none⟩, []⟩])) (.keep [0, 3, 4]))) (.seq (.reg ([⟨some 9, .move (.tmp 4), none⟩, ⟨some 10, .binOp .add 3 (.tmp 9) (.const (.int .i64 1)) 3, none⟩, ⟨some 4, .assign (.tmp 10), none⟩])) (.keep [0, 3, 4]))))))) (.seq (.seq (.reg ([⟨some 27, .move (.tmp 3), none⟩, ⟨some 2, .assign (.tmp 27), none⟩])) (.keep [2])) .ret))))
attribute [go_sem ↓] c_ref44_Twin
def h_ref44_Twin : List Hint := [⟨[], [0], []⟩, ⟨[], [0, 3], []⟩, ⟨[], [0, 3, 4], []⟩, ⟨[(3, 33)], [0, 3, 4], []⟩, ⟨[], [0, 3, 4, 8], []⟩, ⟨[], [0, 3, 4], []⟩, ⟨[], [0, 3, 4], []⟩, ⟨[], [2], []⟩]
theorem b_ref44_Twin : Body Tryd.prog 33 [] h_ref44_Twin c_ref44_Twin 28 [.tmp 2] := body_of Tryd.func33 (by kernel_rfl) (by kernel_rfl) (by kernel_rfl) (by kernel_rfl)
def c_ref44_Right : C := (.seq (.seq (.reg ([⟨some 3, .box 26 (.tmp 0), none⟩, ⟨some 6, .alloc 26, none⟩])) (.keep [1, 2, 3, 6])) (.seq (.seq (.draw ([⟨⟨some 7, .load 26 (.tmp 3), none⟩, []⟩, ⟨⟨some 8, .move (.tmp 1), none⟩, [0]⟩, ⟨⟨some 9, .move (.tmp 2), none⟩, [0, 1]⟩, ⟨⟨some 10, .call { callee := .value (.func 65), args := #[(.tmp 9)], argTypes := #[22] }, none⟩, [0, 1]⟩, ⟨⟨some 11, .call { callee := .value (.func 64), args := #[(.tmp 7), (.tmp 8), (.tmp 10)], argTypes := #[26, 3, 26] }, none⟩, []⟩, ⟨⟨none, .store 26 (.tmp 6) (.tmp 11), none⟩, []⟩])) (.keep [6])) .ret))
attribute [go_sem ↓] c_ref44_Right
def h_ref44_Right : List Hint := [⟨[], [1, 2, 3, 6], []⟩, ⟨[], [6], []⟩]
theorem b_ref44_Right : Body Tryd.prog 34 [] h_ref44_Right c_ref44_Right 12 [.cell 6 26] := body_of Tryd.func34 (by kernel_rfl) (by kernel_rfl) (by kernel_rfl) (by kernel_rfl)
def c_chain_Check : C := (.seq (.seq (.reg ([⟨some 2, .assign (.const (.int .i64 0)), none⟩])) (.keep [0])) (.seq (.seq (.seq (.reg ([⟨some 5, .move (.tmp 0), none⟩, ⟨some 6, .call { callee := .builtin .len, args := #[(.tmp 5)], argTypes := #[56] }, none⟩, ⟨some 7, .binOp .gtr 3 (.tmp 6) (.const (.int .i64 40)) 3, none⟩])) (.keep [0, 7])) (.cond (.tmp 7) (.seq (.seq (.reg ([⟨some 2, .assign (.const (.int .i64 4)), none⟩])) (.keep [2])) .ret) .skip)) (.seq (.seq (.seq (.reg ([⟨some 8, .move (.tmp 0), none⟩, ⟨some 9, .call { callee := .builtin .len, args := #[(.tmp 8)], argTypes := #[56] }, none⟩, ⟨some 10, .move (.const (.int .i64 0)), none⟩])) (.keep [8, 9, 10])) (.block 0 (.loop [] [8, 9, 10] (.seq (.seq (.reg ([⟨some 11, .binOp .lss 3 (.tmp 10) (.tmp 9) 3, none⟩])) (.keep [8, 9, 10, 11])) (.seq (.cond (.tmp 11) .skip (.exit 0)) (.seq (.block 1 (.seq (.seq (.reg ([⟨some 12, .indexAddr 56 (.tmp 8) (.tmp 10), none⟩, ⟨some 13, .load 64 (.tmp 12), none⟩, ⟨some 4, .alloc 64, none⟩, ⟨none, .store 64 (.tmp 4) (.tmp 13), none⟩])) (.keep [4, 8, 9, 10])) (.seq (.seq (.reg ([⟨some 14, .fieldAddr 64 (.tmp 4) 0, none⟩, ⟨some 15, .load 22 (.tmp 14), none⟩, ⟨some 16, .call { callee := .builtin .len, args := #[(.tmp 15)], argTypes := #[22] }, none⟩, ⟨some 17, .binOp .gtr 3 (.tmp 16) (.const (.int .i64 200)) 3, none⟩])) (.keep [8, 9, 10, 17])) (.cond (.tmp 17) (.seq (.seq (.reg ([⟨some 2, .assign (.const (.int .i64 8)), none⟩])) (.keep [2])) .ret) .skip)))) (.seq (.reg ([⟨some 18, .binOp .add 3 (.tmp 10) (.const (.int .i64 1)) 3, none⟩, ⟨some 10, .move (.tmp 18), none⟩])) (.keep [8, 9, 10])))))))) (.seq (.seq (.reg ([⟨some 2, .assign (.const (.int .i64 0)), none⟩])) (.keep [2])) .ret))))
attribute [go_sem ↓] c_chain_Check
def h_chain_Check : List Hint := [⟨[], [0], []⟩, ⟨[], [0, 7], []⟩, ⟨[], [2], []⟩, ⟨[], [8, 9, 10], []⟩, ⟨[], [8, 9, 10], []⟩, ⟨[], [8, 9, 10, 11], []⟩, ⟨[], [4, 8, 9, 10], []⟩, ⟨[], [8, 9, 10, 17], []⟩, ⟨[], [2], []⟩, ⟨[], [8, 9, 10], []⟩, ⟨[], [2], []⟩]
theorem b_chain_Check : Body Tryd.prog 41 [] h_chain_Check c_chain_Check 19 [.tmp 2] := body_of Tryd.func41 (by kernel_rfl) (by kernel_rfl) (by kernel_rfl) (by kernel_rfl)
def r_chain_Prove_0 : List I := [⟨some 13, .move (.tmp 15), none⟩, ⟨some 16, .extract (.tmp 13) 0, none⟩, ⟨some 17, .extract (.tmp 13) 1, none⟩, ⟨some 6, .alloc 26, none⟩, ⟨none, .store 26 (.tmp 6) (.tmp 16), none⟩, ⟨some 7, .assign (.tmp 17), none⟩]
@[go_sem ↓] def uq83 := @unI _ _ r_chain_Prove_0.eq_1
def kc68 : C := (.seq (.seq (.reg ([⟨some 20, .build 82 #[], none⟩, ⟨some 21, .move (.tmp 7), none⟩, ⟨none, .store 82 (.tmp 4) (.tmp 20), none⟩, ⟨some 5, .assign (.tmp 21), none⟩])) (.keep [4, 5])) .ret)
@[go_sem ↓] def uq84 := @unC _ _ kc68.eq_1
def kc69 : C := (.cond (.tmp 19) kc68 .skip)
@[go_sem ↓] def uq85 := @unC _ _ kc69.eq_1
def kc70 : C := (.seq (.seq (.reg ([⟨some 18, .move (.tmp 7), none⟩, ⟨some 19, .binOp .neq 27 (.tmp 18) (.const (.int .i64 0)) 27, none⟩])) (.keep [0, 1, 4, 7, 19])) kc69)
@[go_sem ↓] def uq86 := @unC _ _ kc70.eq_1
def kc71 : C := (.seq (.seq (.reg ([⟨some 30, .build 82 #[], none⟩, ⟨none, .store 82 (.tmp 4) (.tmp 30), none⟩, ⟨some 5, .assign (.const (.int .i64 2)), none⟩])) (.keep [4, 5])) .ret)
@[go_sem ↓] def uq87 := @unC _ _ kc71.eq_1
def kc72 : C := (.cond (.tmp 29) kc71 .skip)
@[go_sem ↓] def uq88 := @unC _ _ kc72.eq_1
def r_chain_Prove_6 : List I := [⟨some 38, .build 82 #[(0, (.tmp 31)), (2, (.tmp 37))], none⟩, ⟨some 8, .alloc 82, none⟩, ⟨none, .store 82 (.tmp 8) (.tmp 38), none⟩]
@[go_sem ↓] def uq89 := @unI _ _ r_chain_Prove_6.eq_1
def kc73 : C := (.seq (.reg ([⟨some 41, .move (.tmp 0), none⟩, ⟨some 42, .move (.tmp 1), none⟩, ⟨some 43, .binOp .sub 3 (.tmp 42) (.const (.int .i64 1)) 3, none⟩, ⟨some 44, .indexAddr 56 (.tmp 41) (.tmp 43), none⟩, ⟨some 45, .fieldAddr 64 (.tmp 44) 1, none⟩, ⟨some 46, .load 26 (.tmp 45), none⟩, ⟨some 47, .fieldAddr 82 (.tmp 8) 1, none⟩, ⟨none, .store 26 (.tmp 47) (.tmp 46), none⟩])) (.keep [0, 1, 4, 8]))
@[go_sem ↓] def uq90 := @unC _ _ kc73.eq_1
def kc74 : C := (.cond (.tmp 40) kc73 .skip)
@[go_sem ↓] def uq91 := @unC _ _ kc74.eq_1
def r_chain_Prove_9 : List I := [⟨some 57, .move (.tmp 60), none⟩, ⟨some 61, .extract (.tmp 57) 0, none⟩, ⟨some 62, .extract (.tmp 57) 1, none⟩, ⟨some 11, .alloc 26, none⟩, ⟨none, .store 26 (.tmp 11) (.tmp 61), none⟩, ⟨some 12, .assign (.tmp 62), none⟩]
@[go_sem ↓] def uq92 := @unI _ _ r_chain_Prove_9.eq_1
def kc75 : C := (.seq (.seq (.reg ([⟨some 65, .build 82 #[], none⟩, ⟨some 66, .move (.tmp 12), none⟩, ⟨none, .store 82 (.tmp 4) (.tmp 65), none⟩, ⟨some 5, .assign (.tmp 66), none⟩])) (.keep [4, 5])) .ret)
@[go_sem ↓] def uq93 := @unC _ _ kc75.eq_1
def kc76 : C := (.cond (.tmp 64) kc75 .skip)
@[go_sem ↓] def uq94 := @unC _ _ kc76.eq_1
def kc77 : C := (.seq (.reg ([⟨some 67, .fieldAddr 82 (.tmp 8) 3, none⟩, ⟨some 68, .load 80 (.tmp 67), none⟩, ⟨some 69, .load 26 (.tmp 11), none⟩, ⟨some 70, .buildSlice 80 1 #[(0, (.tmp 69))], none⟩, ⟨some 71, .call { callee := .builtin .append, args := #[(.tmp 68), (.tmp 70)], argTypes := #[80, 80] }, none⟩, ⟨some 72, .fieldAddr 82 (.tmp 8) 3, none⟩, ⟨none, .store 80 (.tmp 72) (.tmp 71), none⟩])) (.keep [4, 8, 51, 52, 53]))
@[go_sem ↓] def uq95 := @unC _ _ kc77.eq_1
def kc78 : C := (.seq (.seq (.seq (.reg ([⟨some 63, .move (.tmp 12), none⟩, ⟨some 64, .binOp .neq 27 (.tmp 63) (.const (.int .i64 0)) 27, none⟩])) (.keep [4, 8, 11, 12, 51, 52, 53, 64])) kc76) kc77)
@[go_sem ↓] def uq96 := @unC _ _ kc78.eq_1
def kc79 : C := (.seq (.seq (.reg (⟨some 58, .fieldAddr 64 (.tmp 10) 0, none⟩ :: ⟨some 59, .load 22 (.tmp 58), none⟩ :: ⟨some 60, .call { callee := .value (.func 14), args := #[(.tmp 59)], argTypes := #[22] }, none⟩ :: r_chain_Prove_9)) (.keep [4, 8, 11, 12, 51, 52, 53])) kc78)
@[go_sem ↓] def uq97 := @unC _ _ kc79.eq_1
def kc80 : C := (.seq (.reg ([⟨some 73, .binOp .add 3 (.tmp 53) (.const (.int .i64 1)) 3, none⟩, ⟨some 53, .move (.tmp 73), none⟩])) (.keep [4, 8, 51, 52, 53]))
@[go_sem ↓] def uq98 := @unC _ _ kc80.eq_1
def kc81 : C := (.seq (.block 1 (.seq (.seq (.reg ([⟨some 55, .indexAddr 56 (.tmp 51) (.tmp 53), none⟩, ⟨some 56, .load 64 (.tmp 55), none⟩, ⟨some 10, .alloc 64, none⟩, ⟨none, .store 64 (.tmp 10) (.tmp 56), none⟩])) (.keep [4, 8, 10, 51, 52, 53])) kc79)) kc80)
@[go_sem ↓] def uq99 := @unC _ _ kc81.eq_1
def kc82 : C := (.seq (.cond (.tmp 54) .skip (.exit 0)) kc81)
@[go_sem ↓] def uq100 := @unC _ _ kc82.eq_1
def kc83 : C := (.seq (.seq (.reg ([⟨some 54, .binOp .lss 3 (.tmp 53) (.tmp 52) 3, none⟩])) (.keep [4, 8, 51, 52, 53, 54])) kc82)
@[go_sem ↓] def uq101 := @unC _ _ kc83.eq_1
def kc84 : C := (.block 0 (.loop [(8, 35000032)] [4, 8, 51, 52, 53] kc83))
@[go_sem ↓] def uq102 := @unC _ _ kc84.eq_1
def kc85 : C := (.seq (.seq (.reg ([⟨some 74, .load 82 (.tmp 8), none⟩, ⟨none, .store 82 (.tmp 4) (.tmp 74), none⟩, ⟨some 5, .assign (.const (.int .i64 0)), none⟩])) (.keep [4, 5])) .ret)
@[go_sem ↓] def uq103 := @unC _ _ kc85.eq_1
def kc86 : C := (.seq (.seq (.seq (.reg ([⟨some 48, .move (.tmp 0), none⟩, ⟨some 49, .move (.tmp 1), none⟩, ⟨some 50, .binOp .add 3 (.tmp 49) (.const (.int .i64 1)) 3, none⟩, ⟨some 51, .slice 56 (.tmp 48) (some (.tmp 50)) none none, none⟩, ⟨some 52, .call { callee := .builtin .len, args := #[(.tmp 51)], argTypes := #[56] }, none⟩, ⟨some 53, .move (.const (.int .i64 0)), none⟩])) (.keep [4, 8, 51, 52, 53])) kc84) kc85)
@[go_sem ↓] def uq104 := @unC _ _ kc86.eq_1
def kc87 : C := (.seq (.seq (.seq (.reg ([⟨some 39, .move (.tmp 1), none⟩, ⟨some 40, .binOp .gtr 3 (.tmp 39) (.const (.int .i64 0)) 3, none⟩])) (.keep [0, 1, 4, 8, 40])) kc74) kc86)
@[go_sem ↓] def uq105 := @unC _ _ kc87.eq_1
def kc88 : C := (.seq (.seq (.reg (⟨some 31, .move (.tmp 1), none⟩ :: ⟨some 32, .move (.tmp 0), none⟩ :: ⟨some 33, .move (.tmp 1), none⟩ :: ⟨some 34, .indexAddr 56 (.tmp 32) (.tmp 33), none⟩ :: ⟨some 35, .fieldAddr 64 (.tmp 34) 0, none⟩ :: ⟨some 36, .load 22 (.tmp 35), none⟩ :: ⟨some 37, .call { callee := .value (.func 63), args := #[(.tmp 36)], argTypes := #[22] }, none⟩ :: r_chain_Prove_6)) (.keep [0, 1, 4, 8])) kc87)
@[go_sem ↓] def uq106 := @unC _ _ kc88.eq_1
def kc89 : C := (.seq (.seq (.seq (.reg ([⟨some 22, .move (.tmp 1), none⟩, ⟨some 23, .binOp .lss 3 (.tmp 22) (.const (.int .i64 0)) 3, none⟩, ⟨some 24, .move (.tmp 23), none⟩, ⟨some 25, .move (.tmp 1), some (24, false)⟩, ⟨some 26, .move (.tmp 0), some (24, false)⟩, ⟨some 27, .call { callee := .builtin .len, args := #[(.tmp 26)], argTypes := #[56] }, some (24, false)⟩, ⟨some 28, .binOp .geq 3 (.tmp 25) (.tmp 27) 3, some (24, false)⟩, ⟨some 29, .pick (.tmp 24) (.const (.bool true)) (.tmp 28), none⟩])) (.keep [0, 1, 4, 29])) kc72) kc88)
@[go_sem ↓] def uq107 := @unC _ _ kc89.eq_1
def kc90 : C := (.seq (.seq (.seq (.reg (⟨some 14, .move (.tmp 0), none⟩ :: ⟨some 15, .call { callee := .value (.func 31), args := #[(.tmp 14)], argTypes := #[56] }, none⟩ :: r_chain_Prove_0)) (.keep [0, 1, 4, 7])) kc70) kc89)
@[go_sem ↓] def uq108 := @unC _ _ kc90.eq_1
def c_chain_Prove : C := (.seq (.seq (.reg ([⟨some 4, .alloc 82, none⟩, ⟨some 5, .assign (.const (.int .i64 0)), none⟩])) (.keep [0, 1, 4])) kc90)
attribute [go_sem ↓] c_chain_Prove
def h_chain_Prove : List Hint := [⟨[], [0, 1, 4], []⟩, ⟨[], [0, 1, 4, 7], []⟩, ⟨[], [0, 1, 4, 7, 19], []⟩, ⟨[], [4, 5], []⟩, ⟨[], [0, 1, 4, 29], []⟩, ⟨[], [4, 5], []⟩, ⟨[], [0, 1, 4, 8], []⟩, ⟨[], [0, 1, 4, 8, 40], []⟩, ⟨[], [0, 1, 4, 8], []⟩, ⟨[], [4, 8, 51, 52, 53], []⟩, ⟨[(8, 35000032)], [4, 8, 51, 52, 53], []⟩, ⟨[], [4, 8, 51, 52, 53, 54], []⟩, ⟨[], [4, 8, 10, 51, 52, 53], []⟩, ⟨[], [4, 8, 11, 12, 51, 52, 53], []⟩, ⟨[], [4, 8, 11, 12, 51, 52, 53, 64], []⟩, ⟨[], [4, 5], []⟩, ⟨[], [4, 8, 51, 52, 53], []⟩, ⟨[], [4, 8, 51, 52, 53], []⟩, ⟨[], [4, 5], []⟩]
theorem b_chain_Prove : Body Tryd.prog 44 [] h_chain_Prove c_chain_Prove 75 [.cell 4 82, .tmp 5] := body_of Tryd.func44 (by kernel_rfl) (by kernel_rfl) (by kernel_rfl) (by kernel_rfl)
def c_chain_next : C := (.seq (.seq (.reg ([⟨some 3, .box 26 (.tmp 0), none⟩, ⟨some 6, .alloc 26, none⟩, ⟨some 7, .assign (.const (.int .i64 0)), none⟩])) (.keep [1, 2, 3, 6])) (.seq (.seq (.reg ([⟨some 11, .move (.tmp 2), none⟩, ⟨some 12, .call { callee := .value (.func 14), args := #[(.tmp 11)], argTypes := #[22] }, none⟩, ⟨some 10, .move (.tmp 12), none⟩, ⟨some 13, .extract (.tmp 10) 0, none⟩, ⟨some 14, .extract (.tmp 10) 1, none⟩, ⟨some 8, .alloc 26, none⟩, ⟨none, .store 26 (.tmp 8) (.tmp 13), none⟩, ⟨some 9, .assign (.tmp 14), none⟩])) (.keep [1, 3, 6, 8, 9])) (.seq (.seq (.seq (.reg ([⟨some 15, .move (.tmp 9), none⟩, ⟨some 16, .binOp .neq 27 (.tmp 15) (.const (.int .i64 0)) 27, none⟩])) (.keep [1, 3, 6, 8, 9, 16])) (.cond (.tmp 16) (.seq (.seq (.reg ([⟨some 17, .build 26 #[], none⟩, ⟨some 18, .move (.tmp 9), none⟩, ⟨none, .store 26 (.tmp 6) (.tmp 17), none⟩, ⟨some 7, .assign (.tmp 18), none⟩])) (.keep [6, 7])) .ret) .skip)) (.seq (.seq (.reg ([⟨some 19, .load 26 (.tmp 3), none⟩, ⟨some 20, .move (.tmp 1), none⟩, ⟨some 21, .load 26 (.tmp 8), none⟩, ⟨some 22, .call { callee := .value (.func 67), args := #[(.tmp 19), (.tmp 20), (.tmp 21)], argTypes := #[26, 3, 26] }, none⟩, ⟨some 23, .extract (.tmp 22) 0, none⟩, ⟨some 24, .extract (.tmp 22) 1, none⟩, ⟨none, .store 26 (.tmp 6) (.tmp 23), none⟩, ⟨some 7, .assign (.tmp 24), none⟩])) (.keep [6, 7])) .ret))))
attribute [go_sem ↓] c_chain_next
def h_chain_next : List Hint := [⟨[], [1, 2, 3, 6], []⟩, ⟨[], [1, 3, 6, 8, 9], []⟩, ⟨[], [1, 3, 6, 8, 9, 16], []⟩, ⟨[], [6, 7], []⟩, ⟨[], [6, 7], []⟩]
theorem b_chain_next : Body Tryd.prog 62 [] h_chain_next c_chain_next 25 [.cell 6 26, .tmp 7] := body_of Tryd.func62 (by kernel_rfl) (by kernel_rfl) (by kernel_rfl) (by kernel_rfl)
def c_ref44_Step : C := (.seq (.seq (.reg ([⟨some 3, .box 26 (.tmp 0), none⟩, ⟨some 5, .box 26 (.tmp 2), none⟩, ⟨some 6, .alloc 26, none⟩])) (.keep [1, 3, 5, 6])) (.seq (.seq (.reg ([⟨some 7, .assign (.const (.slice none 0 0)), none⟩])) (.keep [1, 3, 5, 6, 7])) (.seq (.seq (.seq (.reg ([⟨some 8, .assign (.const (.int .i64 0)), none⟩])) (.keep [1, 3, 5, 6, 7, 8])) (.block 0 (.loop [(7, 1)] [1, 3, 5, 6, 7, 8] (.seq (.seq (.seq (.reg ([⟨some 10, .move (.tmp 8), none⟩, ⟨some 11, .binOp .lss 3 (.tmp 10) (.const (.int .i64 32)) 3, none⟩])) (.keep [1, 3, 5, 6, 7, 8, 11])) (.cond (.tmp 11) .skip (.exit 0))) (.seq (.block 1 (.seq (.reg ([⟨some 14, .move (.tmp 7), none⟩, ⟨some 15, .move (.tmp 8), none⟩, ⟨some 16, .indexAddr 26 (.tmp 3) (.tmp 15), none⟩, ⟨some 17, .load 5 (.tmp 16), none⟩, ⟨some 18, .buildSlice 22 1 #[(0, (.tmp 17))], none⟩, ⟨some 19, .call { callee := .builtin .append, args := #[(.tmp 14), (.tmp 18)], argTypes := #[22, 22] }, none⟩, ⟨some 7, .assign (.tmp 19), none⟩])) (.keep [1, 3, 5, 6, 7, 8]))) (.seq (.reg ([⟨some 12, .move (.tmp 8), none⟩, ⟨some 13, .binOp .add 3 (.tmp 12) (.const (.int .i64 1)) 3, none⟩, ⟨some 8, .assign (.tmp 13), none⟩])) (.keep [1, 3, 5, 6, 7, 8]))))))) (.seq (.seq (.reg ([⟨some 20, .move (.tmp 7), none⟩, ⟨some 21, .move (.tmp 1), none⟩, ⟨some 22, .binOp .shr 3 (.tmp 21) (.const (.int .u64 24)) 112, none⟩, ⟨some 23, .convert 3 5 (.tmp 22), none⟩, ⟨some 24, .move (.tmp 1), none⟩, ⟨some 25, .binOp .shr 3 (.tmp 24) (.const (.int .u64 16)) 112, none⟩, ⟨some 26, .convert 3 5 (.tmp 25), none⟩, ⟨some 27, .move (.tmp 1), none⟩, ⟨some 28, .binOp .shr 3 (.tmp 27) (.const (.int .u64 8)) 112, none⟩, ⟨some 29, .convert 3 5 (.tmp 28), none⟩, ⟨some 30, .move (.tmp 1), none⟩, ⟨some 31, .convert 3 5 (.tmp 30), none⟩, ⟨some 32, .buildSlice 22 4 #[(0, (.tmp 23)), (1, (.tmp 26)), (2, (.tmp 29)), (3, (.tmp 31))], none⟩, ⟨some 33, .call { callee := .builtin .append, args := #[(.tmp 20), (.tmp 32)], argTypes := #[22, 22] }, none⟩, ⟨some 7, .assign (.tmp 33), none⟩])) (.keep [5, 6, 7])) (.seq (.seq (.seq (.reg ([⟨some 9, .assign (.const (.int .i64 0)), none⟩])) (.keep [5, 6, 7, 9])) (.block 2 (.loop [(7, 1)] [5, 6, 7, 9] (.seq (.seq (.seq (.reg ([⟨some 34, .move (.tmp 9), none⟩, ⟨some 35, .binOp .lss 3 (.tmp 34) (.const (.int .i64 32)) 3, none⟩])) (.keep [5, 6, 7, 9, 35])) (.cond (.tmp 35) .skip (.exit 2))) (.seq (.block 3 (.seq (.reg ([⟨some 38, .move (.tmp 7), none⟩, ⟨some 39, .move (.tmp 9), none⟩, ⟨some 40, .indexAddr 26 (.tmp 5) (.tmp 39), none⟩, ⟨some 41, .load 5 (.tmp 40), none⟩, ⟨some 42, .buildSlice 22 1 #[(0, (.tmp 41))], none⟩, ⟨some 43, .call { callee := .builtin .append, args := #[(.tmp 38), (.tmp 42)], argTypes := #[22, 22] }, none⟩, ⟨some 7, .assign (.tmp 43), none⟩])) (.keep [5, 6, 7, 9]))) (.seq (.reg ([⟨some 36, .move (.tmp 9), none⟩, ⟨some 37, .binOp .add 3 (.tmp 36) (.const (.int .i64 1)) 3, none⟩, ⟨some 9, .assign (.tmp 37), none⟩])) (.keep [5, 6, 7, 9]))))))) (.seq (.seq (.reg ([⟨some 44, .move (.tmp 7), none⟩, ⟨some 45, .call { callee := .value (.func 65), args := #[(.tmp 44)], argTypes := #[22] }, none⟩, ⟨none, .store 26 (.tmp 6) (.tmp 45), none⟩])) (.keep [6])) .ret))))))
attribute [go_sem ↓] c_ref44_Step
def h_ref44_Step : List Hint := [⟨[], [1, 3, 5, 6], []⟩, ⟨[], [1, 3, 5, 6, 7], []⟩, ⟨[], [1, 3, 5, 6, 7, 8], []⟩, ⟨[(7, 1)], [1, 3, 5, 6, 7, 8], []⟩, ⟨[], [1, 3, 5, 6, 7, 8, 11], []⟩, ⟨[], [1, 3, 5, 6, 7, 8], []⟩, ⟨[], [1, 3, 5, 6, 7, 8], []⟩, ⟨[], [5, 6, 7], []⟩, ⟨[], [5, 6, 7, 9], []⟩, ⟨[(7, 1)], [5, 6, 7, 9], []⟩, ⟨[], [5, 6, 7, 9, 35], []⟩, ⟨[], [5, 6, 7, 9], []⟩, ⟨[], [5, 6, 7, 9], []⟩, ⟨[], [6], []⟩]
theorem b_ref44_Step : Body Tryd.prog 64 [] h_ref44_Step c_ref44_Step 46 [.cell 6 26] := body_of Tryd.func64 (by kernel_rfl) (by kernel_rfl) (by kernel_rfl) (by kernel_rfl)
def c_ref44_digest : C := (.seq (.seq (.reg ([⟨some 2, .alloc 26, none⟩])) (.keep [0, 2])) (.seq (.seq (.reg ([⟨some 6, .move (.tmp 0), none⟩, ⟨some 7, .call { callee := .value (.func 15), args := #[(.tmp 6)], argTypes := #[22] }, none⟩, ⟨some 5, .move (.tmp 7), none⟩, ⟨some 8, .extract (.tmp 5) 0, none⟩, ⟨some 9, .extract (.tmp 5) 1, none⟩, ⟨some 3, .alloc 26, none⟩, ⟨none, .store 26 (.tmp 3) (.tmp 8), none⟩, ⟨some 4, .assign (.tmp 9), none⟩])) (.keep [2, 3])) (.seq (.seq (.reg ([⟨some 10, .load 26 (.tmp 3), none⟩, ⟨none, .store 26 (.tmp 2) (.tmp 10), none⟩])) (.keep [2])) .ret)))
attribute [go_sem ↓] c_ref44_digest
def h_ref44_digest : List Hint := [⟨[], [0, 2], []⟩, ⟨[], [2, 3], []⟩, ⟨[], [2], []⟩]
theorem b_ref44_digest : Body Tryd.prog 65 [] h_ref44_digest c_ref44_digest 11 [.cell 2 26] := body_of Tryd.func65 (by kernel_rfl) (by kernel_rfl) (by kernel_rfl) (by kernel_rfl)
def c_chain_step : C := (.seq (.seq (.reg ([⟨some 3, .box 26 (.tmp 0), none⟩, ⟨some 5, .box 26 (.tmp 2), none⟩, ⟨some 6, .alloc 26, none⟩, ⟨some 7, .assign (.const (.int .i64 0)), none⟩])) (.keep [1, 3, 5, 6])) (.seq (.seq (.reg ([⟨some 8, .alloc 122, none⟩])) (.keep [1, 3, 5, 6, 8])) (.seq (.seq (.draw ([⟨⟨some 9, .slice 122 (.tmp 8) none none none, none⟩, []⟩, ⟨⟨some 10, .slice 26 (.tmp 3) none none none, none⟩, [0]⟩, ⟨⟨some 11, .call { callee := .builtin .copy, args := #[(.tmp 9), (.tmp 10)], argTypes := #[22, 22] }, none⟩, []⟩])) (.keep [1, 5, 6, 8])) (.seq (.seq (.reg ([⟨some 12, .move (.tmp 1), none⟩, ⟨some 13, .binOp .shr 3 (.tmp 12) (.const (.int .u64 24)) 112, none⟩, ⟨some 14, .convert 3 5 (.tmp 13), none⟩, ⟨some 15, .move (.tmp 1), none⟩, ⟨some 16, .binOp .shr 3 (.tmp 15) (.const (.int .u64 16)) 112, none⟩, ⟨some 17, .convert 3 5 (.tmp 16), none⟩, ⟨some 18, .move (.tmp 1), none⟩, ⟨some 19, .binOp .shr 3 (.tmp 18) (.const (.int .u64 8)) 112, none⟩, ⟨some 20, .convert 3 5 (.tmp 19), none⟩, ⟨some 21, .move (.tmp 1), none⟩, ⟨some 22, .convert 3 5 (.tmp 21), none⟩, ⟨some 23, .indexAddr 122 (.tmp 8) (.const (.int .i64 32)), none⟩, ⟨none, .store 5 (.tmp 23) (.tmp 14), none⟩, ⟨some 24, .indexAddr 122 (.tmp 8) (.const (.int .i64 33)), none⟩, ⟨none, .store 5 (.tmp 24) (.tmp 17), none⟩, ⟨some 25, .indexAddr 122 (.tmp 8) (.const (.int .i64 34)), none⟩, ⟨none, .store 5 (.tmp 25) (.tmp 20), none⟩, ⟨some 26, .indexAddr 122 (.tmp 8) (.const (.int .i64 35)), none⟩, ⟨none, .store 5 (.tmp 26) (.tmp 22), none⟩])) (.keep [5, 6, 8])) (.seq (.seq (.draw ([⟨⟨some 27, .slice 122 (.tmp 8) (some (.const (.int .i64 36))) none none, none⟩, []⟩, ⟨⟨some 28, .slice 26 (.tmp 5) none none none, none⟩, [0]⟩, ⟨⟨some 29, .call { callee := .builtin .copy, args := #[(.tmp 27), (.tmp 28)], argTypes := #[22, 22] }, none⟩, []⟩])) (.keep [6, 8])) (.seq (.seq (.reg ([⟨some 30, .slice 122 (.tmp 8) none none none, none⟩, ⟨some 31, .call { callee := .value (.func 14), args := #[(.tmp 30)], argTypes := #[22] }, none⟩, ⟨some 32, .extract (.tmp 31) 0, none⟩, ⟨some 33, .extract (.tmp 31) 1, none⟩, ⟨none, .store 26 (.tmp 6) (.tmp 32), none⟩, ⟨some 7, .assign (.tmp 33), none⟩])) (.keep [6, 7])) .ret))))))
attribute [go_sem ↓] c_chain_step
def h_chain_step : List Hint := [⟨[], [1, 3, 5, 6], []⟩, ⟨[], [1, 3, 5, 6, 8], []⟩, ⟨[], [1, 5, 6, 8], []⟩, ⟨[], [5, 6, 8], []⟩, ⟨[], [6, 8], []⟩, ⟨[], [6, 7], []⟩]
theorem b_chain_step : Body Tryd.prog 67 [] h_chain_step c_chain_step 34 [.cell 6 26, .tmp 7] := body_of Tryd.func67 (by kernel_rfl) (by kernel_rfl) (by kernel_rfl) (by kernel_rfl)
def bF (bs : List (BitVec 8)) : List AV := bs.map fun b => .t (.i .u8 b.toNat) false
theorem bF_to (m : Nat) (h : H) (ws : List (BitVec 8)) : List.map (toT1 m h) (bF ws) = bF ws := by
  unfold bF
  rw [List.map_map]
  refine List.map_congr_left fun x _ => ?_
  rfl
theorem bF_all (m : Nat) (ws : List (BitVec 8)) : (bF ws).all (below m) = true := by
  rw [List.all_eq_true]
  intro x hx
  simp only [bF, List.mem_map] at hx
  obtain ⟨b, _, rfl⟩ := hx
  rfl
theorem bF_len (ws : List (BitVec 8)) : (bF ws).length = ws.length := by simp [bF]
theorem bN_mapF (bs : List (BitVec 8)) : List.map (fun x => AV.t x false) (bN bs) = bF bs := by simp [bN, bF]
theorem bF_one (ws : List (BitVec 8)) : ∀ v ∈ bF ws, v.one := by
  intro v hv
  simp only [bF, List.mem_map] at hv
  obtain ⟨b, _, rfl⟩ := hv
  simp [AV.one, T.one]
attribute [go_sem] bF_to bF_all bF_len
theorem z32_len : (List.replicate 32 0#8).length = 32 := rfl
theorem z32_drop : List.drop 32 (bC (List.replicate 32 0#8)) = [] := rfl
theorem z32_take : List.take 32 (bC (List.replicate 32 0#8)) = bC (List.replicate 32 0#8) := rfl
attribute [go_sem] z32_len z32_drop z32_take
theorem argCs_bF (h : H) : ∀ ws : List (BitVec 8), argCs h (bF ws) (bN ws) = True
  | [] => by show argCs h [] [] = True; rw [argCs_nil]
  | b :: ws => by
    show argCs h (.t (.i .u8 b.toNat) false :: bF ws) (.i .u8 b.toNat :: bN ws) = True
    rw [argCs_cons, argCs_bF h ws, arg1_t]
    simp
theorem argCs_bC (h : H) : ∀ ws : List (BitVec 8), argCs h (bC ws) (bN ws) = True
  | [] => by show argCs h [] [] = True; rw [argCs_nil]
  | b :: ws => by
    show argCs h (.t (.i .u8 b.toNat) true :: bC ws) (.i .u8 b.toNat :: bN ws) = True
    rw [argCs_cons, argCs_bC h ws, arg1_t]
    simp
attribute [go_sem] argCs_bF argCs_bC
def b4 (n : Nat) : List (BitVec 8) := [BitVec.ofNat 8 (n / 2 ^ 24), BitVec.ofNat 8 (n / 2 ^ 16), BitVec.ofNat 8 (n / 2 ^ 8), BitVec.ofNat 8 n]
def stepV (p : List (BitVec 8)) (n : Nat) (d : List (BitVec 8)) : List (BitVec 8) := ofV (p ++ b4 n ++ d)
theorem stepV_len (p : List (BitVec 8)) (n : Nat) (d : List (BitVec 8)) : (stepV p n d).length = 32 := ofV_len _
theorem s_ref44_digest (b : List (BitVec 8)) (hb : b.length ≤ 1000000) : Spec Tryd.prog 65 [.sl (bT b)] [] (.t (.agg (bN (ofV b))) true) := by
  refine spec_k (hold mixed) b_ref44_digest [(.agg (bN (ofV b)), true)] ?_
  have hS := s_ref08_Sum b
  rw [show sumV b = ofV b from if_pos hb] at hS
  have hd := ofV_len b
  simp -implicitDefEqProofs only [go_sem, reduceIte, Nat.reduceAdd, Nat.reduceSub, Nat.reduceMul, Nat.reduceLT, Nat.reduceLeDiff, Nat.reduceEqDiff, Nat.reduceBEq, Int.reduceLE, Int.reduceLT, Int.reduceToNat, Int.reduceMul, Int.reduceAdd, Int.reduceSub, Int.reduceNeg, Int.reduceEq, reduceCtorEq, Nat.reduceMod, Int.reduceBNe, Int.reduceBEq, Int.reduceGT, Int.reduceGE, Int.reduceNe, Int.cast_ofNat_Int, Int.natCast_zero, Int.natCast_one, bne_self_eq_false, gt_iff_lt, ge_iff_le, Int.lt_irrefl, Int.le_refl]
  first | refine call_k hS ?_ | refine call_d hS ?_
  simp -implicitDefEqProofs only [go_sem, reduceIte, Nat.reduceAdd, Nat.reduceSub, Nat.reduceMul, Nat.reduceLT, Nat.reduceLeDiff, Nat.reduceEqDiff, Nat.reduceBEq, Int.reduceLE, Int.reduceLT, Int.reduceToNat, Int.reduceMul, Int.reduceAdd, Int.reduceSub, Int.reduceNeg, Int.reduceEq, reduceCtorEq, Nat.reduceMod, Int.reduceBNe, Int.reduceBEq, Int.reduceGT, Int.reduceGE, Int.reduceNe, Int.cast_ofNat_Int, Int.natCast_zero, Int.natCast_one, bne_self_eq_false, gt_iff_lt, ge_iff_le, Int.lt_irrefl, Int.le_refl, bN_map, hd, bC_take hd, embs_bC]
  exact bC_one _
theorem bF_take {ws : List (BitVec 8)} (h : ws.length = 32) : List.take 32 (bF ws) = bF ws := List.take_of_length_le (by rw [bF_len]; omega)
theorem plains_bF {ws : List (BitVec 8)} (h : ws ≠ []) : plains (bF ws) = some (bN ws, false) := by
  cases ws with
  | nil => exact absurd rfl h
  | cons b ws =>
    have key : ∀ l : List (BitVec 8), ∃ m, plains (bF l) = some (bN l, m) := by
      intro l
      induction l with
      | nil => exact ⟨true, rfl⟩
      | cons b ws ih =>
        obtain ⟨m, hm⟩ := ih
        refine ⟨false, ?_⟩
        show plains (.t (.i .u8 b.toNat) false :: bF ws) = _
        simp only [plains, AV.plain, hm, Bool.false_and]
        rfl
    obtain ⟨m, hm⟩ := key ws
    show plains (.t (.i .u8 b.toNat) false :: bF ws) = _
    simp only [plains, AV.plain, hm, Bool.false_and]
    rfl
theorem plains_bF32 {ws : List (BitVec 8)} (h : ws.length = 32) : plains (bF ws) = some (bN ws, false) := plains_bF (by intro e; rw [e] at h; cases h)
theorem chunk_bN : ∀ ws : List (BitVec 8), chunk 1 ws.length (bN ws) = bT ws
  | [] => rfl
  | b :: ws => by
    show [T.i .u8 b.toNat] :: chunk 1 ws.length (bN ws) = _
    rw [chunk_bN ws]
    rfl
theorem chunk32 {ws : List (BitVec 8)} (h : ws.length = 32) : chunk 1 32 (bN ws) = bT ws := by
  have := chunk_bN ws
  rwa [h] at this
attribute [go_sem ↓] chunk32
theorem bT_flat (ws : List (BitVec 8)) : (bT ws).flatten = bN ws := by
  induction ws with
  | nil => rfl
  | cons b ws ih =>
    show ([T.i .u8 b.toNat] :: bT ws).flatten = _
    rw [List.flatten_cons, ih]
    rfl
theorem room32 : (32 ≤ room) = True := eq_true (by unfold room; omega)
theorem tk32 {p : List (BitVec 8)} (hp : p.length = 32) (X : List AV) (j : Nat) : List.take (32 + j) (bF p ++ X) = bF p ++ List.take j X := by
  have := List.take_length_add_append (l₁ := bF p) (l₂ := X) j
  rwa [bF_len, hp] at this
theorem dr32 {p : List (BitVec 8)} (hp : p.length = 32) (X : List AV) (j : Nat) : List.drop (32 + j) (bF p ++ X) = List.drop j X := by
  have := List.drop_length_add_append (l₁ := bF p) (l₂ := X) j
  rwa [bF_len, hp] at this
theorem byte_shr (n k : Nat) : IntKind.u8.wrap (((n : Nat) : Int).fdiv (2 ^ k)) = (((BitVec.ofNat 8 (n / 2 ^ k)).toNat : Nat) : Int) := by
  have h : (((n : Nat) : Int).fdiv (2 ^ k)) = ((n / 2 ^ k : Nat) : Int) := by
    rw [Int.fdiv_eq_ediv_of_nonneg _ (by exact Int.le_of_lt (Int.pow_pos (by omega)))]
    simp
  rw [h, IntKind.wrap_u8', BitVec.toNat_ofNat]
  omega
theorem byte_low (n : Nat) : IntKind.u8.wrap ((n : Nat) : Int) = (((BitVec.ofNat 8 n).toNat : Nat) : Int) := by
  rw [IntKind.wrap_u8', BitVec.toNat_ofNat]
  omega
theorem plains_app : ∀ {xs ys : List AV} {a b : List T} {l m : Bool}, plains xs = some (a, l) → plains ys = some (b, m) → plains (xs ++ ys) = some (a ++ b, l && m)
  | [], ys, a, b, l, m, h1, h2 => by
    simp only [plains, Option.some.injEq, Prod.mk.injEq] at h1
    obtain ⟨rfl, rfl⟩ := h1
    simpa using h2
  | x :: xs, ys, a, b, l, m, h1, h2 => by
    simp only [plains] at h1
    split at h1 <;> simp only [Option.some.injEq, Prod.mk.injEq, reduceCtorEq] at h1
    rename_i x' l' xs' m' e1 e2
    obtain ⟨rfl, rfl⟩ := h1
    simp only [List.cons_append, plains, e1, plains_app e2 h2, Bool.and_assoc]
theorem bN_app (a b : List (BitVec 8)) : bN (a ++ b) = bN a ++ bN b := by simp [bN]
theorem step_plains {p d : List (BitVec 8)} (n : Nat) (hp : p.length = 32) (hd : d.length = 32) : plains (bF p ++ AV.t (.i .u8 (BitVec.ofNat 8 (n / 2 ^ 24)).toNat) true :: AV.t (.i .u8 (BitVec.ofNat 8 (n / 2 ^ 16)).toNat) true :: AV.t (.i .u8 (BitVec.ofNat 8 (n / 2 ^ 8)).toNat) true :: AV.t (.i .u8 (BitVec.ofNat 8 n).toNat) true :: bF d) = some (bN (p ++ b4 n ++ d), false) := by
  have h2 : plains (AV.t (.i .u8 (BitVec.ofNat 8 (n / 2 ^ 24)).toNat) true :: AV.t (.i .u8 (BitVec.ofNat 8 (n / 2 ^ 16)).toNat) true :: AV.t (.i .u8 (BitVec.ofNat 8 (n / 2 ^ 8)).toNat) true :: AV.t (.i .u8 (BitVec.ofNat 8 n).toNat) true :: bF d) = some (bN (b4 n) ++ bN d, false) := by
    simp only [plains, AV.plain, plains_bF32 hd, Bool.true_and]
    rfl
  rw [plains_app (plains_bF32 hp) h2, bN_app, bN_app, List.append_assoc]
  rfl
theorem chunk68 {ws : List (BitVec 8)} (h : ws.length = 68) : chunk 1 68 (bN ws) = bT ws := by
  have := chunk_bN ws
  rwa [h] at this
theorem b4_len (n : Nat) : (b4 n).length = 4 := rfl
attribute [go_sem ↓] chunk68
theorem room68 : (68 ≤ room) = True := eq_true (by unfold room; omega)
theorem bT_len1 (ws : List (BitVec 8)) : ∀ e ∈ bT ws, e.length = 1 := fun e he => (okEs_bT ws e he).1
theorem min32 : min 32 68 = 32 := rfl
theorem s_chain_step (p : List (BitVec 8)) (n : Nat) (d : List (BitVec 8)) (hp : p.length = 32) (hn : n ≤ 1000) (hd : d.length = 32) : Spec Tryd.prog 67 [.agg (bN p), .i .i64 n, .agg (bN d)] [] (.tup [.t (.agg (bN (stepV p n d))) true, .t (.i .i64 0) true]) := by
  refine spec_k (hold mixed) b_chain_step [(.agg (bN (stepV p n d)), true), (.i .i64 0, true)] ?_
  have tb : List.take 32 (bT p) = bT p := List.take_of_length_le (by rw [bT_length]; omega)
  have t0 := fun X => tk32 hp X 0
  have t1 := fun X => tk32 hp X 1
  have t2 := fun X => tk32 hp X 2
  have t3 := fun X => tk32 hp X 3
  have t4 := fun X => tk32 hp X 4
  have d0 := fun X => dr32 hp X 0
  have d1 := fun X => dr32 hp X 1
  have d2 := fun X => dr32 hp X 2
  have d3 := fun X => dr32 hp X 3
  have d4 := fun X => dr32 hp X 4
  have d36 := fun X => dr32 hp X 36
  have t36 := fun X => tk32 hp X 36
  simp only [Nat.reduceAdd, List.drop_zero, List.take_zero, List.append_nil] at t0 t1 t2 t3 t4 d0 d1 d2 d3 d4 d36 t36
  have tbd : List.take 32 (bT d) = bT d := List.take_of_length_le (by rw [bT_length]; omega)
  have hq : (p ++ b4 n ++ d).length = 68 := by rw [List.length_append, List.length_append, hp, hd, b4_len]
  have hS := s_Sum' (p ++ b4 n ++ d) (by omega)
  have hpl := step_plains n hp hd
  have hl := stepV_len p n d
  have hst : ofV (p ++ b4 n ++ d) = stepV p n d := rfl
  rw [hst] at hS
  simp -implicitDefEqProofs only [go_sem, reduceIte, Nat.reduceAdd, Nat.reduceSub, Nat.reduceMul, Nat.reduceLT, Nat.reduceLeDiff, Nat.reduceEqDiff, Nat.reduceBEq, Int.reduceLE, Int.reduceLT, Int.reduceToNat, Int.reduceMul, Int.reduceAdd, Int.reduceSub, Int.reduceNeg, Int.reduceEq, reduceCtorEq, Nat.reduceMod, Int.reduceBNe, Int.reduceBEq, Int.reduceGT, Int.reduceGE, Int.reduceNe, Int.cast_ofNat_Int, Int.natCast_zero, Int.natCast_one, bne_self_eq_false, gt_iff_lt, ge_iff_le, Int.lt_irrefl, Int.le_refl, bN_mapF, bF_take hp, bF_take hd, plains_bF32 hp, plains_bF32 hd, hp, hd, room32, tb, tbd, bT_flat, min32, t0, t1, t2, t3, t4, d0, d1, d2, d3, d4, d36, List.append_assoc, List.drop_replicate, List.length_append, List.length_replicate, byte_shr, byte_low]
  refine ⟨okEs_bT _, okEs_bT _, ?_⟩
  first | refine call_k hS ?_ (by simp -implicitDefEqProofs only [go_sem, reduceIte, Nat.reduceAdd, Nat.reduceSub, Nat.reduceMul, Nat.reduceLT, Nat.reduceLeDiff, Nat.reduceEqDiff, Nat.reduceBEq, Int.reduceLE, Int.reduceLT, Int.reduceToNat, Int.reduceMul, Int.reduceAdd, Int.reduceSub, Int.reduceNeg, Int.reduceEq, reduceCtorEq, Nat.reduceMod, Int.reduceBNe, Int.reduceBEq, Int.reduceGT, Int.reduceGE, Int.reduceNe, Int.cast_ofNat_Int, Int.natCast_zero, Int.natCast_one, bne_self_eq_false, gt_iff_lt, ge_iff_le, Int.lt_irrefl, Int.le_refl, t36, bF_take hd, hpl, hq, room68, hp, hd, List.length_append]; exact bT_len1 _) | refine call_d hS ?_ (by simp -implicitDefEqProofs only [go_sem, reduceIte, Nat.reduceAdd, Nat.reduceSub, Nat.reduceMul, Nat.reduceLT, Nat.reduceLeDiff, Nat.reduceEqDiff, Nat.reduceBEq, Int.reduceLE, Int.reduceLT, Int.reduceToNat, Int.reduceMul, Int.reduceAdd, Int.reduceSub, Int.reduceNeg, Int.reduceEq, reduceCtorEq, Nat.reduceMod, Int.reduceBNe, Int.reduceBEq, Int.reduceGT, Int.reduceGE, Int.reduceNe, Int.cast_ofNat_Int, Int.natCast_zero, Int.natCast_one, bne_self_eq_false, gt_iff_lt, ge_iff_le, Int.lt_irrefl, Int.le_refl, t36, bF_take hd, hpl, hq, room68, hp, hd, List.length_append]; exact bT_len1 _)
  simp -implicitDefEqProofs only [go_sem, reduceIte, Nat.reduceAdd, Nat.reduceSub, Nat.reduceMul, Nat.reduceLT, Nat.reduceLeDiff, Nat.reduceEqDiff, Nat.reduceBEq, Int.reduceLE, Int.reduceLT, Int.reduceToNat, Int.reduceMul, Int.reduceAdd, Int.reduceSub, Int.reduceNeg, Int.reduceEq, reduceCtorEq, Nat.reduceMod, Int.reduceBNe, Int.reduceBEq, Int.reduceGT, Int.reduceGE, Int.reduceNe, Int.cast_ofNat_Int, Int.natCast_zero, Int.natCast_one, bne_self_eq_false, gt_iff_lt, ge_iff_le, Int.lt_irrefl, Int.le_refl, bN_map, hl, bC_take hl, embs_bC]
  exact bC_one _
theorem bF_at {ws : List (BitVec 8)} {k : Nat} (h : k < ws.length) : (bF ws)[k]? = some (.t (.i .u8 ws[k].toNat) false) := by simp [bF, h]
theorem take_snoc {α : Type} {l : List α} {k : Nat} (h : k < l.length) : l.take (k + 1) = l.take k ++ [l[k]] := (List.take_append_getElem h).symm
def rsA (p : List (BitVec 8)) (n : Nat) (d : List (BitVec 8)) (i : Nat) : S := ⟨tmL [(1, .t (.i .i64 n) true), (3, .ptr 0 0), (5, .ptr 1 0), (6, .ptr 2 0), (7, .row 3 i 0 i), (8, .t (.i .i64 i) true)], [.var (bF p), .var (bF d), .var (bC (List.replicate 32 0#8)), .row i 1 (bT (p.take i)) true]⟩
def rsB (p : List (BitVec 8)) (n : Nat) (d : List (BitVec 8)) (i : Nat) : S := ⟨tmL [(5, .ptr 1 0), (6, .ptr 2 0), (7, .row 3 (33 + i) 0 (36 + i)), (9, .t (.i .i64 i) true)], [.var (bF p), .var (bF d), .var (bC (List.replicate 32 0#8)), .row (33 + i) 1 (bT (p ++ b4 n ++ d.take i)) true, .row 0 1 (bT (b4 n)) true]⟩
theorem s_ref44_Step (p : List (BitVec 8)) (n : Nat) (d : List (BitVec 8)) (hp : p.length = 32) (hn : n ≤ 1000) (hd : d.length = 32) : Spec Tryd.prog 64 [.agg (bN p), .i .i64 n, .agg (bN d)] [] (.t (.agg (bN (stepV p n d))) true) := by
  refine spec_k (hold mixed) b_ref44_Step [(.agg (bN (stepV p n d)), true)] ?_
  simp -implicitDefEqProofs only [go_sem, reduceIte, Nat.reduceAdd, Nat.reduceSub, Nat.reduceMul, Nat.reduceLT, Nat.reduceLeDiff, Nat.reduceEqDiff, Nat.reduceBEq, Int.reduceLE, Int.reduceLT, Int.reduceToNat, Int.reduceMul, Int.reduceAdd, Int.reduceSub, Int.reduceNeg, Int.reduceEq, reduceCtorEq, Nat.reduceMod, Int.reduceBNe, Int.reduceBEq, Int.reduceGT, Int.reduceGE, Int.reduceNe, Int.cast_ofNat_Int, Int.natCast_zero, Int.natCast_one, bne_self_eq_false, gt_iff_lt, ge_iff_le, Int.lt_irrefl, Int.le_refl, bN_mapF]
  refine loop_l (α := Nat) (rsA p n d) (fun i => 32 - i) (fun i => i ≤ 32) 0 (by simp -implicitDefEqProofs only [go_sem, reduceIte, Nat.reduceAdd, Nat.reduceSub, Nat.reduceMul, Nat.reduceLT, Nat.reduceLeDiff, Nat.reduceEqDiff, Nat.reduceBEq, Int.reduceLE, Int.reduceLT, Int.reduceToNat, Int.reduceMul, Int.reduceAdd, Int.reduceSub, Int.reduceNeg, Int.reduceEq, reduceCtorEq, Nat.reduceMod, rsA]; rfl) (Nat.zero_le _) ?_
  intro i hi R hR
  simp -implicitDefEqProofs only [go_sem, reduceIte, Nat.reduceAdd, Nat.reduceSub, Nat.reduceMul, Nat.reduceLT, Nat.reduceLeDiff, Nat.reduceEqDiff, Nat.reduceBEq, Int.reduceLE, Int.reduceLT, Int.reduceToNat, Int.reduceMul, Int.reduceAdd, Int.reduceSub, Int.reduceNeg, Int.reduceEq, reduceCtorEq, Nat.reduceMod, Int.reduceBNe, Int.reduceBEq, Int.reduceGT, Int.reduceGE, Int.reduceNe, Int.cast_ofNat_Int, Int.natCast_zero, Int.natCast_one, bne_self_eq_false, gt_iff_lt, ge_iff_le, Int.lt_irrefl, Int.le_refl, rsA]
  refine wcond_mk (fun hh => ?_) (fun hh => ?_)
  · have hi' : i < 32 := by have := of_decide_eq_true hh; omega
    have h32 : ((i : Int) < 32) = True := eq_true (by omega)
    simp -implicitDefEqProofs only [go_sem, reduceIte, Nat.reduceAdd, Nat.reduceSub, Nat.reduceMul, Nat.reduceLT, Nat.reduceLeDiff, Nat.reduceEqDiff, Nat.reduceBEq, Int.reduceLE, Int.reduceLT, Int.reduceToNat, Int.reduceMul, Int.reduceAdd, Int.reduceSub, Int.reduceNeg, Int.reduceEq, reduceCtorEq, Nat.reduceMod, Int.reduceBNe, Int.reduceBEq, Int.reduceGT, Int.reduceGE, Int.reduceNe, Int.cast_ofNat_Int, Int.natCast_zero, Int.natCast_one, bne_self_eq_false, gt_iff_lt, ge_iff_le, Int.lt_irrefl, Int.le_refl, Nat.mul_one, bF_at (show i < p.length by omega), h32]
    have hti : (p.take i).length = i := by rw [List.length_take]; omega
    refine ⟨⟨okEs_bT [p[i]], by omega, by unfold room; omega⟩, hR (i + 1) _ ?_ (by omega) (by omega)⟩
    simp -implicitDefEqProofs only [go_sem, reduceIte, Nat.reduceAdd, Nat.reduceSub, Nat.reduceMul, Nat.reduceLT, Nat.reduceLeDiff, Nat.reduceEqDiff, Nat.reduceBEq, Int.reduceLE, Int.reduceLT, Int.reduceToNat, Int.reduceMul, Int.reduceAdd, Int.reduceSub, Int.reduceNeg, Int.reduceEq, reduceCtorEq, Nat.reduceMod, wrap_i64_id (show -9223372036854775808 ≤ (i : Int) + 1 by omega) (by omega), Int.natCast_add, rsA]
    rw [List.take_of_length_le (show (bT (p.take i)).length ≤ i by rw [bT_length]; omega), take_snoc (show i < p.length by omega), bT_append]
    rfl
  · have hi' : i = 32 := by have := of_decide_eq_false hh; omega
    subst hi'
    clear hR hh
    have tp : p.take 32 = p := List.take_of_length_le (by omega)
    have tb : List.take 32 (bT p) = bT p := List.take_of_length_le (by rw [bT_length]; omega)
    simp -implicitDefEqProofs only [go_sem, reduceIte, Nat.reduceAdd, Nat.reduceSub, Nat.reduceMul, Nat.reduceLT, Nat.reduceLeDiff, Nat.reduceEqDiff, Nat.reduceBEq, Int.reduceLE, Int.reduceLT, Int.reduceToNat, Int.reduceMul, Int.reduceAdd, Int.reduceSub, Int.reduceNeg, Int.reduceEq, reduceCtorEq, Nat.reduceMod, Int.reduceBNe, Int.reduceBEq, Int.reduceGT, Int.reduceGE, Int.reduceNe, Int.cast_ofNat_Int, Int.natCast_zero, Int.natCast_one, bne_self_eq_false, gt_iff_lt, ge_iff_le, Int.lt_irrefl, Int.le_refl, byte_shr, byte_low, tp, tb]
    refine ⟨⟨okEs_bT (b4 n), by omega, by unfold room; omega⟩, ?_⟩
    refine loop_l (α := Nat) (rsB p n d) (fun i => 32 - i) (fun i => i ≤ 32) 0 (by simp -implicitDefEqProofs only [go_sem, reduceIte, Nat.reduceAdd, Nat.reduceSub, Nat.reduceMul, Nat.reduceLT, Nat.reduceLeDiff, Nat.reduceEqDiff, Nat.reduceBEq, Int.reduceLE, Int.reduceLT, Int.reduceToNat, Int.reduceMul, Int.reduceAdd, Int.reduceSub, Int.reduceNeg, Int.reduceEq, reduceCtorEq, Nat.reduceMod, rsB]; rw [bT_append]; rfl) (Nat.zero_le _) ?_
    intro i hi R hR
    simp -implicitDefEqProofs only [go_sem, reduceIte, Nat.reduceAdd, Nat.reduceSub, Nat.reduceMul, Nat.reduceLT, Nat.reduceLeDiff, Nat.reduceEqDiff, Nat.reduceBEq, Int.reduceLE, Int.reduceLT, Int.reduceToNat, Int.reduceMul, Int.reduceAdd, Int.reduceSub, Int.reduceNeg, Int.reduceEq, reduceCtorEq, Nat.reduceMod, Int.reduceBNe, Int.reduceBEq, Int.reduceGT, Int.reduceGE, Int.reduceNe, Int.cast_ofNat_Int, Int.natCast_zero, Int.natCast_one, bne_self_eq_false, gt_iff_lt, ge_iff_le, Int.lt_irrefl, Int.le_refl, rsB]
    refine wcond_mk (fun hh => ?_) (fun hh => ?_)
    · have hi' : i < 32 := by have := of_decide_eq_true hh; omega
      have h32 : ((i : Int) < 32) = True := eq_true (by omega)
      have hlq : (p ++ b4 n ++ d.take i).length = 36 + i := by rw [List.length_append, List.length_append, List.length_take, b4_len]; omega
      simp -implicitDefEqProofs only [go_sem, reduceIte, Nat.reduceAdd, Nat.reduceSub, Nat.reduceMul, Nat.reduceLT, Nat.reduceLeDiff, Nat.reduceEqDiff, Nat.reduceBEq, Int.reduceLE, Int.reduceLT, Int.reduceToNat, Int.reduceMul, Int.reduceAdd, Int.reduceSub, Int.reduceNeg, Int.reduceEq, reduceCtorEq, Nat.reduceMod, Int.reduceBNe, Int.reduceBEq, Int.reduceGT, Int.reduceGE, Int.reduceNe, Int.cast_ofNat_Int, Int.natCast_zero, Int.natCast_one, bne_self_eq_false, gt_iff_lt, ge_iff_le, Int.lt_irrefl, Int.le_refl, Nat.mul_one, bF_at (show i < d.length by omega), h32]
      refine ⟨⟨okEs_bT [d[i]], by omega, by unfold room; omega⟩, hR (i + 1) _ ?_ (by omega) (by omega)⟩
      simp -implicitDefEqProofs only [go_sem, reduceIte, Nat.reduceAdd, Nat.reduceSub, Nat.reduceMul, Nat.reduceLT, Nat.reduceLeDiff, Nat.reduceEqDiff, Nat.reduceBEq, Int.reduceLE, Int.reduceLT, Int.reduceToNat, Int.reduceMul, Int.reduceAdd, Int.reduceSub, Int.reduceNeg, Int.reduceEq, reduceCtorEq, Nat.reduceMod, wrap_i64_id (show -9223372036854775808 ≤ (i : Int) + 1 by omega) (by omega), Int.natCast_add, rsB]
      rw [List.take_of_length_le (show (bT (p ++ b4 n ++ d.take i)).length ≤ 36 + i by rw [bT_length]; omega), take_snoc (show i < d.length by omega), ← List.append_assoc, bT_append _ [d[i]]]
      rfl
    · have hi' : i = 32 := by have := of_decide_eq_false hh; omega
      subst hi'
      clear hR hh
      have td : d.take 32 = d := List.take_of_length_le (by omega)
      have hlq : (p ++ b4 n ++ d).length = 68 := by rw [List.length_append, List.length_append, b4_len]; omega
      have hst : ofV (p ++ b4 n ++ d) = stepV p n d := rfl
      have hl := stepV_len p n d
      have hS := s_ref44_digest (p ++ b4 n ++ d) (by omega)
      rw [hst] at hS
      simp -implicitDefEqProofs only [go_sem, reduceIte, Nat.reduceAdd, Nat.reduceSub, Nat.reduceMul, Nat.reduceLT, Nat.reduceLeDiff, Nat.reduceEqDiff, Nat.reduceBEq, Int.reduceLE, Int.reduceLT, Int.reduceToNat, Int.reduceMul, Int.reduceAdd, Int.reduceSub, Int.reduceNeg, Int.reduceEq, reduceCtorEq, Nat.reduceMod, Int.reduceBNe, Int.reduceBEq, Int.reduceGT, Int.reduceGE, Int.reduceNe, Int.cast_ofNat_Int, Int.natCast_zero, Int.natCast_one, bne_self_eq_false, gt_iff_lt, ge_iff_le, Int.lt_irrefl, Int.le_refl, td]
      first | refine call_k hS ?_ (by simp -implicitDefEqProofs only [go_sem, reduceIte, Nat.reduceAdd, Nat.reduceSub, Nat.reduceMul, Nat.reduceLT, Nat.reduceLeDiff, Nat.reduceEqDiff, Nat.reduceBEq, Int.reduceLE, Int.reduceLT, Int.reduceToNat, Int.reduceMul, Int.reduceAdd, Int.reduceSub, Int.reduceNeg, Int.reduceEq, reduceCtorEq, Nat.reduceMod, Int.reduceBNe, Int.reduceBEq, Int.reduceGT, Int.reduceGE, Int.reduceNe, Int.cast_ofNat_Int, Int.natCast_zero, Int.natCast_one, bne_self_eq_false, gt_iff_lt, ge_iff_le, Int.lt_irrefl, Int.le_refl, hlq]; exact List.take_of_length_le (by rw [bT_length]; omega)) | refine call_d hS ?_ (by simp -implicitDefEqProofs only [go_sem, reduceIte, Nat.reduceAdd, Nat.reduceSub, Nat.reduceMul, Nat.reduceLT, Nat.reduceLeDiff, Nat.reduceEqDiff, Nat.reduceBEq, Int.reduceLE, Int.reduceLT, Int.reduceToNat, Int.reduceMul, Int.reduceAdd, Int.reduceSub, Int.reduceNeg, Int.reduceEq, reduceCtorEq, Nat.reduceMod, Int.reduceBNe, Int.reduceBEq, Int.reduceGT, Int.reduceGE, Int.reduceNe, Int.cast_ofNat_Int, Int.natCast_zero, Int.natCast_one, bne_self_eq_false, gt_iff_lt, ge_iff_le, Int.lt_irrefl, Int.le_refl, hlq]; exact List.take_of_length_le (by rw [bT_length]; omega))
      simp -implicitDefEqProofs only [go_sem, reduceIte, Nat.reduceAdd, Nat.reduceSub, Nat.reduceMul, Nat.reduceLT, Nat.reduceLeDiff, Nat.reduceEqDiff, Nat.reduceBEq, Int.reduceLE, Int.reduceLT, Int.reduceToNat, Int.reduceMul, Int.reduceAdd, Int.reduceSub, Int.reduceNeg, Int.reduceEq, reduceCtorEq, Nat.reduceMod, Int.reduceBNe, Int.reduceBEq, Int.reduceGT, Int.reduceGE, Int.reduceNe, Int.cast_ofNat_Int, Int.natCast_zero, Int.natCast_one, bne_self_eq_false, gt_iff_lt, ge_iff_le, Int.lt_irrefl, Int.le_refl, bN_map, hl, bC_take hl, embs_bC]
      exact bC_one _
structure Lnk where
  data : List (BitVec 8)
  sum : List (BitVec 8)
  deriving DecidableEq
def Lnk.E (x : Lnk) : List T := .sl (bT x.data) :: bN x.sum
attribute [go_sem] Lnk.E
def lnT (l : List Lnk) : List (List T) := l.map Lnk.E
theorem lnT_length (l : List Lnk) : (lnT l).length = l.length := by simp [lnT]
theorem lnT_get {l : List Lnk} {k : Nat} (h : k < l.length) : (lnT l)[k]? = some l[k].E := by simp [lnT, h]
attribute [go_sem] lnT_length
def lnOK (l : List Lnk) : Prop := ∀ x ∈ l, x.sum.length = 32
theorem lnOK_get {l : List Lnk} (h : lnOK l) {k : Nat} (hk : k < l.length) : l[k].sum.length = 32 := h _ (List.getElem_mem hk)
def checkV (l : List Lnk) : Int := if 40 < l.length then 4 else if l.any (fun x => decide (200 < x.data.length)) = true then 8 else 0
theorem checkV_many {l : List Lnk} (h : 40 < l.length) : checkV l = 4 := if_pos h
theorem checkV_bad {l : List Lnk} (h : ¬ 40 < l.length) {k : Nat} (hk : k < l.length) (hb : 200 < l[k].data.length) : checkV l = 8 := by
  unfold checkV
  rw [if_neg h, if_pos (List.any_eq_true.2 ⟨l[k], List.getElem_mem hk, decide_eq_true hb⟩)]
theorem checkV_ok {l : List Lnk} (h : ¬ 40 < l.length) (ha : ∀ j (hj : j < l.length), l[j].data.length ≤ 200) : checkV l = 0 := by
  unfold checkV
  rw [if_neg h, if_neg]
  intro he
  obtain ⟨x, hx, hd⟩ := List.any_eq_true.1 he
  obtain ⟨j, hj, rfl⟩ := List.getElem_of_mem hx
  have := ha j hj
  have := of_decide_eq_true hd
  omega
theorem checkV_inv {l : List Lnk} (h : checkV l = 0) : l.length ≤ 40 ∧ ∀ j (hj : j < l.length), l[j].data.length ≤ 200 := by
  unfold checkV at h
  split at h
  · cases h
  · split at h
    · cases h
    · rename_i h1 h2
      refine ⟨by omega, fun j hj => ?_⟩
      rcases Nat.lt_or_ge 200 l[j].data.length with hb | hb
      · exact absurd (List.any_eq_true.2 ⟨l[j], List.getElem_mem hj, decide_eq_true hb⟩) h2
      · exact hb
theorem bN_len' (ws : List (BitVec 8)) : (bN ws).length = ws.length := by simp [bN]
attribute [go_sem] bN_len'
theorem bN_take {ws : List (BitVec 8)} (h : ws.length = 32) : List.take 32 (bN ws) = bN ws := List.take_of_length_le (by rw [bN_len']; omega)
theorem s_chain_Check (l : List Lnk) (hl : lnOK l) : Spec Tryd.prog 41 [.sl (lnT l)] [] (.t (.i .i64 (checkV l)) true) := by
  refine spec_k (hold mixed) b_chain_Check [(.i .i64 (checkV l), true)] ?_
  by_cases h40 : 40 < l.length
  · have h1 : ((40 : Int) < (l.length : Int)) = True := eq_true (by omega)
    simp -implicitDefEqProofs only [go_sem, reduceIte, Nat.reduceAdd, Nat.reduceSub, Nat.reduceMul, Nat.reduceLT, Nat.reduceLeDiff, Nat.reduceEqDiff, Nat.reduceBEq, Int.reduceLE, Int.reduceLT, Int.reduceToNat, Int.reduceMul, Int.reduceAdd, Int.reduceSub, Int.reduceNeg, Int.reduceEq, reduceCtorEq, Nat.reduceMod, Int.reduceBNe, Int.reduceBEq, Int.reduceGT, Int.reduceGE, Int.reduceNe, Int.cast_ofNat_Int, Int.natCast_zero, Int.natCast_one, bne_self_eq_false, gt_iff_lt, ge_iff_le, Int.lt_irrefl, Int.le_refl, h1, checkV_many h40]
  · have h1 : ((40 : Int) < (l.length : Int)) = False := eq_false (by omega)
    simp -implicitDefEqProofs only [go_sem, reduceIte, Nat.reduceAdd, Nat.reduceSub, Nat.reduceMul, Nat.reduceLT, Nat.reduceLeDiff, Nat.reduceEqDiff, Nat.reduceBEq, Int.reduceLE, Int.reduceLT, Int.reduceToNat, Int.reduceMul, Int.reduceAdd, Int.reduceSub, Int.reduceNeg, Int.reduceEq, reduceCtorEq, Nat.reduceMod, Int.reduceBNe, Int.reduceBEq, Int.reduceGT, Int.reduceGE, Int.reduceNe, Int.cast_ofNat_Int, Int.natCast_zero, Int.natCast_one, bne_self_eq_false, gt_iff_lt, ge_iff_le, Int.lt_irrefl, Int.le_refl, h1]
    refine loop_l (α := Nat) (fun k => ⟨tmL [(8, .t (.sl (lnT l)) false), (9, .t (.i .i64 l.length) true), (10, .t (.i .i64 k) true)], []⟩) (fun k => l.length - k) (fun k => k ≤ l.length ∧ ∀ j (hj : j < k) (hj2 : j < l.length), l[j].data.length ≤ 200) 0 (by simp -implicitDefEqProofs only [go_sem, reduceIte, Nat.reduceAdd, Nat.reduceSub, Nat.reduceMul, Nat.reduceLT, Nat.reduceLeDiff, Nat.reduceEqDiff, Nat.reduceBEq, Int.reduceLE, Int.reduceLT, Int.reduceToNat, Int.reduceMul, Int.reduceAdd, Int.reduceSub, Int.reduceNeg, Int.reduceEq, reduceCtorEq, Nat.reduceMod]; rfl) ⟨Nat.zero_le _, fun j hj => by omega⟩ ?_
    rintro k ⟨hk, ha⟩ R hR
    simp -implicitDefEqProofs only [go_sem, reduceIte, Nat.reduceAdd, Nat.reduceSub, Nat.reduceMul, Nat.reduceLT, Nat.reduceLeDiff, Nat.reduceEqDiff, Nat.reduceBEq, Int.reduceLE, Int.reduceLT, Int.reduceToNat, Int.reduceMul, Int.reduceAdd, Int.reduceSub, Int.reduceNeg, Int.reduceEq, reduceCtorEq, Nat.reduceMod, Int.reduceBNe, Int.reduceBEq, Int.reduceGT, Int.reduceGE, Int.reduceNe, Int.cast_ofNat_Int, Int.natCast_zero, Int.natCast_one, bne_self_eq_false, gt_iff_lt, ge_iff_le, Int.lt_irrefl, Int.le_refl]
    refine wcond_mk (fun hh => ?_) (fun hh => ?_)
    · have hk' : k < l.length := by have := of_decide_eq_true hh; omega
      have h32 := lnOK_get hl hk'
      simp -implicitDefEqProofs only [go_sem, reduceIte, Nat.reduceAdd, Nat.reduceSub, Nat.reduceMul, Nat.reduceLT, Nat.reduceLeDiff, Nat.reduceEqDiff, Nat.reduceBEq, Int.reduceLE, Int.reduceLT, Int.reduceToNat, Int.reduceMul, Int.reduceAdd, Int.reduceSub, Int.reduceNeg, Int.reduceEq, reduceCtorEq, Nat.reduceMod, Int.reduceBNe, Int.reduceBEq, Int.reduceGT, Int.reduceGE, Int.reduceNe, Int.cast_ofNat_Int, Int.natCast_zero, Int.natCast_one, bne_self_eq_false, gt_iff_lt, ge_iff_le, Int.lt_irrefl, Int.le_refl, lnT_get hk', bN_take h32, bN_mapF, h32]
      refine ⟨bF_one _, ?_⟩
      refine wcond_mk (fun hb => ?_) (fun hb => ?_)
      · have hb' : 200 < l[k].data.length := by have := of_decide_eq_true hb; omega
        simp -implicitDefEqProofs only [go_sem, reduceIte, Nat.reduceAdd, Nat.reduceSub, Nat.reduceMul, Nat.reduceLT, Nat.reduceLeDiff, Nat.reduceEqDiff, Nat.reduceBEq, Int.reduceLE, Int.reduceLT, Int.reduceToNat, Int.reduceMul, Int.reduceAdd, Int.reduceSub, Int.reduceNeg, Int.reduceEq, reduceCtorEq, Nat.reduceMod, Int.reduceBNe, Int.reduceBEq, Int.reduceGT, Int.reduceGE, Int.reduceNe, Int.cast_ofNat_Int, Int.natCast_zero, Int.natCast_one, bne_self_eq_false, gt_iff_lt, ge_iff_le, Int.lt_irrefl, Int.le_refl, checkV_bad h40 hk' hb']
      · have hb' : l[k].data.length ≤ 200 := by have := of_decide_eq_false hb; omega
        simp -implicitDefEqProofs only [go_sem, reduceIte, Nat.reduceAdd, Nat.reduceSub, Nat.reduceMul, Nat.reduceLT, Nat.reduceLeDiff, Nat.reduceEqDiff, Nat.reduceBEq, Int.reduceLE, Int.reduceLT, Int.reduceToNat, Int.reduceMul, Int.reduceAdd, Int.reduceSub, Int.reduceNeg, Int.reduceEq, reduceCtorEq, Nat.reduceMod, Int.reduceBNe, Int.reduceBEq, Int.reduceGT, Int.reduceGE, Int.reduceNe, Int.cast_ofNat_Int, Int.natCast_zero, Int.natCast_one, bne_self_eq_false, gt_iff_lt, ge_iff_le, Int.lt_irrefl, Int.le_refl]
        refine hR (k + 1) _ ?_ ⟨by omega, fun j hj hj2 => ?_⟩ (by omega)
        · simp -implicitDefEqProofs only [go_sem, reduceIte, Nat.reduceAdd, Nat.reduceSub, Nat.reduceMul, Nat.reduceLT, Nat.reduceLeDiff, Nat.reduceEqDiff, Nat.reduceBEq, Int.reduceLE, Int.reduceLT, Int.reduceToNat, Int.reduceMul, Int.reduceAdd, Int.reduceSub, Int.reduceNeg, Int.reduceEq, reduceCtorEq, Nat.reduceMod, wrap_i64_id (show -9223372036854775808 ≤ (k : Int) + 1 by omega) (by omega), Int.natCast_add]
          rfl
        · rcases Nat.lt_or_ge j k with h | h
          · exact ha j h hj2
          · obtain rfl : j = k := by omega
            exact hb'
    · have hk' : k = l.length := by have := of_decide_eq_false hh; omega
      subst hk'
      simp -implicitDefEqProofs only [go_sem, reduceIte, Nat.reduceAdd, Nat.reduceSub, Nat.reduceMul, Nat.reduceLT, Nat.reduceLeDiff, Nat.reduceEqDiff, Nat.reduceBEq, Int.reduceLE, Int.reduceLT, Int.reduceToNat, Int.reduceMul, Int.reduceAdd, Int.reduceSub, Int.reduceNeg, Int.reduceEq, reduceCtorEq, Nat.reduceMod, Int.reduceBNe, Int.reduceBEq, Int.reduceGT, Int.reduceGE, Int.reduceNe, Int.cast_ofNat_Int, Int.natCast_zero, Int.natCast_one, bne_self_eq_false, gt_iff_lt, ge_iff_le, Int.lt_irrefl, Int.le_refl, checkV_ok h40 (fun j hj => ha j hj hj)]
theorem s_chain_next (p : List (BitVec 8)) (n : Nat) (d : List (BitVec 8)) (hp : p.length = 32) (hn : n ≤ 1000) (hd : d.length ≤ 1000000) : Spec Tryd.prog 62 [.agg (bN p), .i .i64 n, .sl (bT d)] [] (.tup [.t (.agg (bN (stepV p n (ofV d)))) true, .t (.i .i64 0) true]) := by
  refine spec_k (hold mixed) b_chain_next [(.agg (bN (stepV p n (ofV d))), true), (.i .i64 0, true)] ?_
  have hl := ofV_len d
  have hl2 := stepV_len p n (ofV d)
  simp -implicitDefEqProofs only [go_sem, reduceIte, Nat.reduceAdd, Nat.reduceSub, Nat.reduceMul, Nat.reduceLT, Nat.reduceLeDiff, Nat.reduceEqDiff, Nat.reduceBEq, Int.reduceLE, Int.reduceLT, Int.reduceToNat, Int.reduceMul, Int.reduceAdd, Int.reduceSub, Int.reduceNeg, Int.reduceEq, reduceCtorEq, Nat.reduceMod, Int.reduceBNe, Int.reduceBEq, Int.reduceGT, Int.reduceGE, Int.reduceNe, Int.cast_ofNat_Int, Int.natCast_zero, Int.natCast_one, bne_self_eq_false, gt_iff_lt, ge_iff_le, Int.lt_irrefl, Int.le_refl, bN_mapF]
  first | refine call_k (s_Sum' d hd) ?_ | refine call_d (s_Sum' d hd) ?_
  simp -implicitDefEqProofs only [go_sem, reduceIte, Nat.reduceAdd, Nat.reduceSub, Nat.reduceMul, Nat.reduceLT, Nat.reduceLeDiff, Nat.reduceEqDiff, Nat.reduceBEq, Int.reduceLE, Int.reduceLT, Int.reduceToNat, Int.reduceMul, Int.reduceAdd, Int.reduceSub, Int.reduceNeg, Int.reduceEq, reduceCtorEq, Nat.reduceMod, Int.reduceBNe, Int.reduceBEq, Int.reduceGT, Int.reduceGE, Int.reduceNe, Int.cast_ofNat_Int, Int.natCast_zero, Int.natCast_one, bne_self_eq_false, gt_iff_lt, ge_iff_le, Int.lt_irrefl, Int.le_refl, bN_map, hl, bC_take hl]
  refine ⟨bC_one _, ?_⟩
  simp -implicitDefEqProofs only [go_sem, reduceIte, Nat.reduceAdd, Nat.reduceSub, Nat.reduceMul, Nat.reduceLT, Nat.reduceLeDiff, Nat.reduceEqDiff, Nat.reduceBEq, Int.reduceLE, Int.reduceLT, Int.reduceToNat, Int.reduceMul, Int.reduceAdd, Int.reduceSub, Int.reduceNeg, Int.reduceEq, reduceCtorEq, Nat.reduceMod, Int.reduceBNe, Int.reduceBEq, Int.reduceGT, Int.reduceGE, Int.reduceNe, Int.cast_ofNat_Int, Int.natCast_zero, Int.natCast_one, bne_self_eq_false, gt_iff_lt, ge_iff_le, Int.lt_irrefl, Int.le_refl, bF_take hp, hp]
  first | refine call_k (s_chain_step p n (ofV d) hp hn hl) ?_ | refine call_d (s_chain_step p n (ofV d) hp hn hl) ?_
  simp -implicitDefEqProofs only [go_sem, reduceIte, Nat.reduceAdd, Nat.reduceSub, Nat.reduceMul, Nat.reduceLT, Nat.reduceLeDiff, Nat.reduceEqDiff, Nat.reduceBEq, Int.reduceLE, Int.reduceLT, Int.reduceToNat, Int.reduceMul, Int.reduceAdd, Int.reduceSub, Int.reduceNeg, Int.reduceEq, reduceCtorEq, Nat.reduceMod, Int.reduceBNe, Int.reduceBEq, Int.reduceGT, Int.reduceGE, Int.reduceNe, Int.cast_ofNat_Int, Int.natCast_zero, Int.natCast_one, bne_self_eq_false, gt_iff_lt, ge_iff_le, Int.lt_irrefl, Int.le_refl, bN_map, hl2, bC_take hl2, embs_bC]
  exact bC_one _
theorem s_ref44_Right (p : List (BitVec 8)) (n : Nat) (d : List (BitVec 8)) (hp : p.length = 32) (hn : n ≤ 1000) (hd : d.length ≤ 1000000) : Spec Tryd.prog 34 [.agg (bN p), .i .i64 n, .sl (bT d)] [] (.t (.agg (bN (stepV p n (ofV d)))) true) := by
  refine spec_k (hold mixed) b_ref44_Right [(.agg (bN (stepV p n (ofV d))), true)] ?_
  have hl := ofV_len d
  have hl2 := stepV_len p n (ofV d)
  simp -implicitDefEqProofs only [go_sem, reduceIte, Nat.reduceAdd, Nat.reduceSub, Nat.reduceMul, Nat.reduceLT, Nat.reduceLeDiff, Nat.reduceEqDiff, Nat.reduceBEq, Int.reduceLE, Int.reduceLT, Int.reduceToNat, Int.reduceMul, Int.reduceAdd, Int.reduceSub, Int.reduceNeg, Int.reduceEq, reduceCtorEq, Nat.reduceMod, Int.reduceBNe, Int.reduceBEq, Int.reduceGT, Int.reduceGE, Int.reduceNe, Int.cast_ofNat_Int, Int.natCast_zero, Int.natCast_one, bne_self_eq_false, gt_iff_lt, ge_iff_le, Int.lt_irrefl, Int.le_refl, bN_mapF, bF_take hp, hp]
  first | refine call_k (s_ref44_digest d hd) ?_ | refine call_d (s_ref44_digest d hd) ?_
  simp -implicitDefEqProofs only [go_sem, reduceIte, Nat.reduceAdd, Nat.reduceSub, Nat.reduceMul, Nat.reduceLT, Nat.reduceLeDiff, Nat.reduceEqDiff, Nat.reduceBEq, Int.reduceLE, Int.reduceLT, Int.reduceToNat, Int.reduceMul, Int.reduceAdd, Int.reduceSub, Int.reduceNeg, Int.reduceEq, reduceCtorEq, Nat.reduceMod, Int.reduceBNe, Int.reduceBEq, Int.reduceGT, Int.reduceGE, Int.reduceNe, Int.cast_ofNat_Int, Int.natCast_zero, Int.natCast_one, bne_self_eq_false, gt_iff_lt, ge_iff_le, Int.lt_irrefl, Int.le_refl]
  first | refine call_k (s_ref44_Step p n (ofV d) hp hn hl) ?_ | refine call_d (s_ref44_Step p n (ofV d) hp hn hl) ?_
  simp -implicitDefEqProofs only [go_sem, reduceIte, Nat.reduceAdd, Nat.reduceSub, Nat.reduceMul, Nat.reduceLT, Nat.reduceLeDiff, Nat.reduceEqDiff, Nat.reduceBEq, Int.reduceLE, Int.reduceLT, Int.reduceToNat, Int.reduceMul, Int.reduceAdd, Int.reduceSub, Int.reduceNeg, Int.reduceEq, reduceCtorEq, Nat.reduceMod, Int.reduceBNe, Int.reduceBEq, Int.reduceGT, Int.reduceGE, Int.reduceNe, Int.cast_ofNat_Int, Int.natCast_zero, Int.natCast_one, bne_self_eq_false, gt_iff_lt, ge_iff_le, Int.lt_irrefl, Int.le_refl, bN_map, hl2, bC_take hl2, embs_bC]
  exact bC_one _
theorem embs_bF (h : H) (ws : List (BitVec 8)) : embs h (bF ws) = some (bN ws, true, []) := by
  induction ws with
  | nil => rfl
  | cons b ws ih =>
    show embs h (.t (.i .u8 b.toNat) false :: bF ws) = _
    simp only [embs, emb, ih]
    rfl
def z32 : List (BitVec 8) := List.replicate 32 0#8
def befV (l : List Lnk) (k : Nat) : List (BitVec 8) := if k = 0 then z32 else ((l[k - 1]?).map Lnk.sum).getD z32
theorem befV_0 (l : List Lnk) : befV l 0 = z32 := rfl
theorem befV_succ {l : List Lnk} {k : Nat} (h : k < l.length) : befV l (k + 1) = l[k].sum := by
  simp [befV, h]
theorem befV_len {l : List Lnk} (hl : lnOK l) (k : Nat) : (befV l k).length = 32 := by
  unfold befV
  split
  · rfl
  · cases h : l[k - 1]? with
    | none => rfl
    | some x => exact hl x (List.mem_of_getElem? h)
theorem z32_N : bN z32 = [.i .u8 0, .i .u8 0, .i .u8 0, .i .u8 0, .i .u8 0, .i .u8 0, .i .u8 0, .i .u8 0, .i .u8 0, .i .u8 0, .i .u8 0, .i .u8 0, .i .u8 0, .i .u8 0, .i .u8 0, .i .u8 0, .i .u8 0, .i .u8 0, .i .u8 0, .i .u8 0, .i .u8 0, .i .u8 0, .i .u8 0, .i .u8 0, .i .u8 0, .i .u8 0, .i .u8 0, .i .u8 0, .i .u8 0, .i .u8 0, .i .u8 0, .i .u8 0] := rfl
def okB (l : List Lnk) (k : Nat) : Bool := ((l[k]?).map Lnk.sum).getD [] == stepV (befV l k) k (ofV (((l[k]?).map Lnk.data).getD []))
theorem okB_at {l : List Lnk} {k : Nat} (h : k < l.length) : okB l k = (l[k].sum == stepV (befV l k) k (ofV l[k].data)) := by simp [okB, h]
def firstV (l : List Lnk) : Int := match (List.range l.length).find? (fun k => !okB l k) with
  | some k => (k : Int)
  | none => -1
theorem firstV_at {l : List Lnk} {k : Nat} (hk : k < l.length) (ha : ∀ j, j < k → okB l j = true) (hb : okB l k = false) : firstV l = k := by
  unfold firstV
  have : (List.range l.length).find? (fun k => !okB l k) = some k := by
    rw [List.find?_range_eq_some]
    refine ⟨by simp [hb], List.mem_range.2 hk, fun j hj => by simp [ha j hj]⟩
  rw [this]
theorem firstV_none {l : List Lnk} (ha : ∀ j, j < l.length → okB l j = true) : firstV l = -1 := by
  unfold firstV
  have : (List.range l.length).find? (fun k => !okB l k) = none := by
    rw [List.find?_range_eq_none]
    intro j hj
    simp [ha j hj]
  rw [this]
def fstV (l : List Lnk) : Int := if checkV l = 0 then firstV l else 0
theorem s_ref44_Before (l : List Lnk) (hl : lnOK l) (k : Nat) (hk : k ≤ l.length) (hn : l.length ≤ 1000000) : Spec Tryd.prog 32 [.sl (lnT l), .i .i64 k] [] (.t (.agg (bN (befV l k))) true) := by
  refine spec_k (hold mixed) b_ref44_Before [(.agg (bN (befV l k)), true)] ?_
  cases k with
  | zero =>
    simp -implicitDefEqProofs only [go_sem, reduceIte, Nat.reduceAdd, Nat.reduceSub, Nat.reduceMul, Nat.reduceLT, Nat.reduceLeDiff, Nat.reduceEqDiff, Nat.reduceBEq, Int.reduceLE, Int.reduceLT, Int.reduceToNat, Int.reduceMul, Int.reduceAdd, Int.reduceSub, Int.reduceNeg, Int.reduceEq, reduceCtorEq, Nat.reduceMod, Int.reduceBNe, Int.reduceBEq, Int.reduceGT, Int.reduceGE, Int.reduceNe, Int.cast_ofNat_Int, Int.natCast_zero, Int.natCast_one, bne_self_eq_false, gt_iff_lt, ge_iff_le, Int.lt_irrefl, Int.le_refl, befV_0, z32_N]
    done
  | succ k =>
    have e1 : (((k + 1 : Nat) : Int) == 0) = false := by rw [beq_eq_false_iff_ne]; omega
    have e2 : IntKind.i64.wrap (((k + 1 : Nat) : Int) - 1) = (k : Int) := by rw [wrap_i64_id (by omega) (by omega)]; omega
    have e3 : ((k : Int) < (l.length : Int)) = True := eq_true (by omega)
    have h32 := lnOK_get hl (show k < l.length by omega)
    simp -implicitDefEqProofs only [go_sem, reduceIte, Nat.reduceAdd, Nat.reduceSub, Nat.reduceMul, Nat.reduceLT, Nat.reduceLeDiff, Nat.reduceEqDiff, Nat.reduceBEq, Int.reduceLE, Int.reduceLT, Int.reduceToNat, Int.reduceMul, Int.reduceAdd, Int.reduceSub, Int.reduceNeg, Int.reduceEq, reduceCtorEq, Nat.reduceMod, Int.reduceBNe, Int.reduceBEq, Int.reduceGT, Int.reduceGE, Int.reduceNe, Int.cast_ofNat_Int, Int.natCast_zero, Int.natCast_one, bne_self_eq_false, gt_iff_lt, ge_iff_le, Int.lt_irrefl, Int.le_refl, e1, e2, e3, lnT_get (show k < l.length by omega), befV_succ (show k < l.length by omega), bN_take h32, bN_mapF, h32, bF_take h32, embs_bF]
    exact bF_one _
theorem s_chain_First (l : List Lnk) (hl : lnOK l) : Spec Tryd.prog 30 [.sl (lnT l)] [] (.tup [.t (.i .i64 (fstV l)) true, .t (.i .i64 (checkV l)) true]) := by
  refine spec_k (hold mixed) b_chain_First [(.i .i64 (fstV l), true), (.i .i64 (checkV l), true)] ?_
  simp -implicitDefEqProofs only [go_sem, reduceIte, Nat.reduceAdd, Nat.reduceSub, Nat.reduceMul, Nat.reduceLT, Nat.reduceLeDiff, Nat.reduceEqDiff, Nat.reduceBEq, Int.reduceLE, Int.reduceLT, Int.reduceToNat, Int.reduceMul, Int.reduceAdd, Int.reduceSub, Int.reduceNeg, Int.reduceEq, reduceCtorEq, Nat.reduceMod, Int.reduceBNe, Int.reduceBEq, Int.reduceGT, Int.reduceGE, Int.reduceNe, Int.cast_ofNat_Int, Int.natCast_zero, Int.natCast_one, bne_self_eq_false, gt_iff_lt, ge_iff_le, Int.lt_irrefl, Int.le_refl]
  first | refine call_k (s_chain_Check l hl) ?_ | refine call_d (s_chain_Check l hl) ?_
  by_cases hc : checkV l = 0
  · obtain ⟨h40, h200⟩ := checkV_inv hc
    rw [show fstV l = firstV l from if_pos hc, hc]
    simp -implicitDefEqProofs only [go_sem, reduceIte, Nat.reduceAdd, Nat.reduceSub, Nat.reduceMul, Nat.reduceLT, Nat.reduceLeDiff, Nat.reduceEqDiff, Nat.reduceBEq, Int.reduceLE, Int.reduceLT, Int.reduceToNat, Int.reduceMul, Int.reduceAdd, Int.reduceSub, Int.reduceNeg, Int.reduceEq, reduceCtorEq, Nat.reduceMod, Int.reduceBNe, Int.reduceBEq, Int.reduceGT, Int.reduceGE, Int.reduceNe, Int.cast_ofNat_Int, Int.natCast_zero, Int.natCast_one, bne_self_eq_false, gt_iff_lt, ge_iff_le, Int.lt_irrefl, Int.le_refl]
    refine loop_l (α := Nat) (fun k => ⟨tmL [(5, .ptr 0 0), (15, .t (.sl (lnT l)) false), (16, .t (.i .i64 l.length) true), (17, .t (.i .i64 k) true)], [.var (bC (befV l k))]⟩) (fun k => l.length - k) (fun k => k ≤ l.length ∧ ∀ j, j < k → okB l j = true) 0 (by simp -implicitDefEqProofs only [go_sem, reduceIte, Nat.reduceAdd, Nat.reduceSub, Nat.reduceMul, Nat.reduceLT, Nat.reduceLeDiff, Nat.reduceEqDiff, Nat.reduceBEq, Int.reduceLE, Int.reduceLT, Int.reduceToNat, Int.reduceMul, Int.reduceAdd, Int.reduceSub, Int.reduceNeg, Int.reduceEq, reduceCtorEq, Nat.reduceMod, befV_0]; rfl) ⟨Nat.zero_le _, fun j hj => by omega⟩ ?_
    rintro k ⟨hk, ha⟩ R hR
    simp -implicitDefEqProofs only [go_sem, reduceIte, Nat.reduceAdd, Nat.reduceSub, Nat.reduceMul, Nat.reduceLT, Nat.reduceLeDiff, Nat.reduceEqDiff, Nat.reduceBEq, Int.reduceLE, Int.reduceLT, Int.reduceToNat, Int.reduceMul, Int.reduceAdd, Int.reduceSub, Int.reduceNeg, Int.reduceEq, reduceCtorEq, Nat.reduceMod, Int.reduceBNe, Int.reduceBEq, Int.reduceGT, Int.reduceGE, Int.reduceNe, Int.cast_ofNat_Int, Int.natCast_zero, Int.natCast_one, bne_self_eq_false, gt_iff_lt, ge_iff_le, Int.lt_irrefl, Int.le_refl]
    refine wcond_mk (fun hh => ?_) (fun hh => ?_)
    · have hk' : k < l.length := by have := of_decide_eq_true hh; omega
      have h32 := lnOK_get hl hk'
      have hb32 := befV_len hl k
      simp -implicitDefEqProofs only [go_sem, reduceIte, Nat.reduceAdd, Nat.reduceSub, Nat.reduceMul, Nat.reduceLT, Nat.reduceLeDiff, Nat.reduceEqDiff, Nat.reduceBEq, Int.reduceLE, Int.reduceLT, Int.reduceToNat, Int.reduceMul, Int.reduceAdd, Int.reduceSub, Int.reduceNeg, Int.reduceEq, reduceCtorEq, Nat.reduceMod, Int.reduceBNe, Int.reduceBEq, Int.reduceGT, Int.reduceGE, Int.reduceNe, Int.cast_ofNat_Int, Int.natCast_zero, Int.natCast_one, bne_self_eq_false, gt_iff_lt, ge_iff_le, Int.lt_irrefl, Int.le_refl, lnT_get hk', bN_take h32, bN_mapF, h32, hb32, bC_take hb32]
      refine ⟨bF_one _, ?_⟩
      have hst := stepV_len (befV l k) k (ofV l[k].data)
      have hd := h200 k hk'
      first | refine call_k (s_chain_next (befV l k) k l[k].data hb32 (by omega) (by omega)) ?_ | refine call_d (s_chain_next (befV l k) k l[k].data hb32 (by omega) (by omega)) ?_
      simp -implicitDefEqProofs only [go_sem, reduceIte, Nat.reduceAdd, Nat.reduceSub, Nat.reduceMul, Nat.reduceLT, Nat.reduceLeDiff, Nat.reduceEqDiff, Nat.reduceBEq, Int.reduceLE, Int.reduceLT, Int.reduceToNat, Int.reduceMul, Int.reduceAdd, Int.reduceSub, Int.reduceNeg, Int.reduceEq, reduceCtorEq, Nat.reduceMod, Int.reduceBNe, Int.reduceBEq, Int.reduceGT, Int.reduceGE, Int.reduceNe, Int.cast_ofNat_Int, Int.natCast_zero, Int.natCast_one, bne_self_eq_false, gt_iff_lt, ge_iff_le, Int.lt_irrefl, Int.le_refl, bN_map, hst, bC_take hst]
      refine ⟨bC_one _, ?_⟩
      have hok := okB_at hk'
      generalize stepV (befV l k) k (ofV l[k].data) = st at *
      simp -implicitDefEqProofs only [go_sem, reduceIte, Nat.reduceAdd, Nat.reduceSub, Nat.reduceMul, Nat.reduceLT, Nat.reduceLeDiff, Nat.reduceEqDiff, Nat.reduceBEq, Int.reduceLE, Int.reduceLT, Int.reduceToNat, Int.reduceMul, Int.reduceAdd, Int.reduceSub, Int.reduceNeg, Int.reduceEq, reduceCtorEq, Nat.reduceMod, Int.reduceBNe, Int.reduceBEq, Int.reduceGT, Int.reduceGE, Int.reduceNe, Int.cast_ofNat_Int, Int.natCast_zero, Int.natCast_one, bne_self_eq_false, gt_iff_lt, ge_iff_le, Int.lt_irrefl, Int.le_refl, bC_take hst, hst, bF_take h32, h32, plains_bC, plains_bF32 h32, eqCells_bN st l[k].sum (by rw [hst, h32])]
      refine ⟨bN_isI _, ?_⟩
      refine wcond_mk (fun hb => ?_) (fun hb => ?_)
      · have hb' : okB l k = false := by
          rw [hok]
          simp only [Bool.not_eq_true', beq_eq_false_iff_ne, ne_eq] at hb ⊢
          first | exact hb.symm | exact fun e => hb e.symm
        simp -implicitDefEqProofs only [go_sem, reduceIte, Nat.reduceAdd, Nat.reduceSub, Nat.reduceMul, Nat.reduceLT, Nat.reduceLeDiff, Nat.reduceEqDiff, Nat.reduceBEq, Int.reduceLE, Int.reduceLT, Int.reduceToNat, Int.reduceMul, Int.reduceAdd, Int.reduceSub, Int.reduceNeg, Int.reduceEq, reduceCtorEq, Nat.reduceMod, Int.reduceBNe, Int.reduceBEq, Int.reduceGT, Int.reduceGE, Int.reduceNe, Int.cast_ofNat_Int, Int.natCast_zero, Int.natCast_one, bne_self_eq_false, gt_iff_lt, ge_iff_le, Int.lt_irrefl, Int.le_refl, firstV_at hk' ha hb']
      · have hb' : okB l k = true := by
          rw [hok]
          simp only [Bool.not_eq_false', beq_iff_eq] at hb ⊢
          first | exact hb.symm | exact fun e => hb e.symm
        have hse : l[k].sum = st := by rw [hok] at hb'; simpa using hb'
        simp -implicitDefEqProofs only [go_sem, reduceIte, Nat.reduceAdd, Nat.reduceSub, Nat.reduceMul, Nat.reduceLT, Nat.reduceLeDiff, Nat.reduceEqDiff, Nat.reduceBEq, Int.reduceLE, Int.reduceLT, Int.reduceToNat, Int.reduceMul, Int.reduceAdd, Int.reduceSub, Int.reduceNeg, Int.reduceEq, reduceCtorEq, Nat.reduceMod, Int.reduceBNe, Int.reduceBEq, Int.reduceGT, Int.reduceGE, Int.reduceNe, Int.cast_ofNat_Int, Int.natCast_zero, Int.natCast_one, bne_self_eq_false, gt_iff_lt, ge_iff_le, Int.lt_irrefl, Int.le_refl, bC_take hst, hst, hb32, bC_drop hb32]
        refine ⟨bC_one _, hR (k + 1) _ ?_ ⟨by omega, fun j hj => ?_⟩ (by omega)⟩
        · simp -implicitDefEqProofs only [go_sem, reduceIte, Nat.reduceAdd, Nat.reduceSub, Nat.reduceMul, Nat.reduceLT, Nat.reduceLeDiff, Nat.reduceEqDiff, Nat.reduceBEq, Int.reduceLE, Int.reduceLT, Int.reduceToNat, Int.reduceMul, Int.reduceAdd, Int.reduceSub, Int.reduceNeg, Int.reduceEq, reduceCtorEq, Nat.reduceMod, wrap_i64_id (show -9223372036854775808 ≤ (k : Int) + 1 by omega) (by omega), Int.natCast_add, befV_succ hk', hse]
          rfl
        · rcases Nat.lt_or_ge j k with h | h
          · exact ha j h
          · obtain rfl : j = k := by omega
            exact hb'
    · have hk' : k = l.length := by have := of_decide_eq_false hh; omega
      subst hk'
      simp -implicitDefEqProofs only [go_sem, reduceIte, Nat.reduceAdd, Nat.reduceSub, Nat.reduceMul, Nat.reduceLT, Nat.reduceLeDiff, Nat.reduceEqDiff, Nat.reduceBEq, Int.reduceLE, Int.reduceLT, Int.reduceToNat, Int.reduceMul, Int.reduceAdd, Int.reduceSub, Int.reduceNeg, Int.reduceEq, reduceCtorEq, Nat.reduceMod, Int.reduceBNe, Int.reduceBEq, Int.reduceGT, Int.reduceGE, Int.reduceNe, Int.cast_ofNat_Int, Int.natCast_zero, Int.natCast_one, bne_self_eq_false, gt_iff_lt, ge_iff_le, Int.lt_irrefl, Int.le_refl, firstV_none ha]
  · have hc' : (checkV l != 0) = true := by rw [bne_iff_ne]; exact hc
    rw [show fstV l = 0 from if_neg hc]
    simp -implicitDefEqProofs only [go_sem, reduceIte, Nat.reduceAdd, Nat.reduceSub, Nat.reduceMul, Nat.reduceLT, Nat.reduceLeDiff, Nat.reduceEqDiff, Nat.reduceBEq, Int.reduceLE, Int.reduceLT, Int.reduceToNat, Int.reduceMul, Int.reduceAdd, Int.reduceSub, Int.reduceNeg, Int.reduceEq, reduceCtorEq, Nat.reduceMod, Int.reduceBNe, Int.reduceBEq, Int.reduceGT, Int.reduceGE, Int.reduceNe, Int.cast_ofNat_Int, Int.natCast_zero, Int.natCast_one, bne_self_eq_false, gt_iff_lt, ge_iff_le, Int.lt_irrefl, Int.le_refl, hc']
def headV (l : List Lnk) : List (BitVec 8) := if checkV l = 0 then if firstV l < 0 then befV l l.length else z32 else z32
def headE (l : List Lnk) : Int := if checkV l = 0 then if firstV l < 0 then 0 else 22 else checkV l
theorem headV_len {l : List Lnk} (hl : lnOK l) : (headV l).length = 32 := by
  unfold headV
  split
  · split
    · exact befV_len hl _
    · rfl
  · rfl
theorem s_chain_Head (l : List Lnk) (hl : lnOK l) : Spec Tryd.prog 31 [.sl (lnT l)] [] (.tup [.t (.agg (bN (headV l))) true, .t (.i .i64 (headE l)) true]) := by
  refine spec_k (hold mixed) b_chain_Head [(.agg (bN (headV l)), true), (.i .i64 (headE l), true)] ?_
  simp -implicitDefEqProofs only [go_sem, reduceIte, Nat.reduceAdd, Nat.reduceSub, Nat.reduceMul, Nat.reduceLT, Nat.reduceLeDiff, Nat.reduceEqDiff, Nat.reduceBEq, Int.reduceLE, Int.reduceLT, Int.reduceToNat, Int.reduceMul, Int.reduceAdd, Int.reduceSub, Int.reduceNeg, Int.reduceEq, reduceCtorEq, Nat.reduceMod, Int.reduceBNe, Int.reduceBEq, Int.reduceGT, Int.reduceGE, Int.reduceNe, Int.cast_ofNat_Int, Int.natCast_zero, Int.natCast_one, bne_self_eq_false, gt_iff_lt, ge_iff_le, Int.lt_irrefl, Int.le_refl]
  first | refine call_k (s_chain_First l hl) ?_ | refine call_d (s_chain_First l hl) ?_
  by_cases hc : checkV l = 0
  · obtain ⟨h40, h200⟩ := checkV_inv hc
    rw [show fstV l = firstV l from if_pos hc, hc]
    by_cases hf : firstV l < 0
    · have hf' : (0 ≤ firstV l) = False := eq_false (by omega)
      rw [show headV l = befV l l.length by unfold headV; rw [if_pos hc, if_pos hf], show headE l = 0 by unfold headE; rw [if_pos hc, if_pos hf]]
      rcases Nat.eq_zero_or_pos l.length with h0 | h0
      · have e1 : ((l.length : Int) == 0) = true := by rw [h0]; rfl
        rw [h0, befV_0, z32_N]
        simp -implicitDefEqProofs only [go_sem, reduceIte, Nat.reduceAdd, Nat.reduceSub, Nat.reduceMul, Nat.reduceLT, Nat.reduceLeDiff, Nat.reduceEqDiff, Nat.reduceBEq, Int.reduceLE, Int.reduceLT, Int.reduceToNat, Int.reduceMul, Int.reduceAdd, Int.reduceSub, Int.reduceNeg, Int.reduceEq, reduceCtorEq, Nat.reduceMod, Int.reduceBNe, Int.reduceBEq, Int.reduceGT, Int.reduceGE, Int.reduceNe, Int.cast_ofNat_Int, Int.natCast_zero, Int.natCast_one, bne_self_eq_false, gt_iff_lt, ge_iff_le, Int.lt_irrefl, Int.le_refl, hf', e1, h0]
        try rfl
      · obtain ⟨n, hn⟩ : ∃ n, l.length = n + 1 := ⟨l.length - 1, by omega⟩
        have e1 : ((l.length : Int) == 0) = false := by rw [beq_eq_false_iff_ne]; omega
        have e2 : IntKind.i64.wrap ((l.length : Int) - 1) = (n : Int) := by rw [wrap_i64_id (by omega) (by omega)]; omega
        have e3 : ((n : Int) < (l.length : Int)) = True := eq_true (by omega)
        have hn' : n < l.length := by omega
        have h32 := lnOK_get hl hn'
        have hbs := befV_succ hn'
        rw [← hn] at hbs
        rw [hbs]
        simp -implicitDefEqProofs only [go_sem, reduceIte, Nat.reduceAdd, Nat.reduceSub, Nat.reduceMul, Nat.reduceLT, Nat.reduceLeDiff, Nat.reduceEqDiff, Nat.reduceBEq, Int.reduceLE, Int.reduceLT, Int.reduceToNat, Int.reduceMul, Int.reduceAdd, Int.reduceSub, Int.reduceNeg, Int.reduceEq, reduceCtorEq, Nat.reduceMod, Int.reduceBNe, Int.reduceBEq, Int.reduceGT, Int.reduceGE, Int.reduceNe, Int.cast_ofNat_Int, Int.natCast_zero, Int.natCast_one, bne_self_eq_false, gt_iff_lt, ge_iff_le, Int.lt_irrefl, Int.le_refl, hf', e1, e2, e3, lnT_get hn', bN_take h32, bN_mapF, h32, bF_take h32, embs_bF]
        exact bF_one _
    · have hf' : (0 ≤ firstV l) = True := eq_true (by omega)
      rw [show headV l = z32 by unfold headV; rw [if_pos hc, if_neg hf], show headE l = 22 by unfold headE; rw [if_pos hc, if_neg hf], z32_N]
      simp -implicitDefEqProofs only [go_sem, reduceIte, Nat.reduceAdd, Nat.reduceSub, Nat.reduceMul, Nat.reduceLT, Nat.reduceLeDiff, Nat.reduceEqDiff, Nat.reduceBEq, Int.reduceLE, Int.reduceLT, Int.reduceToNat, Int.reduceMul, Int.reduceAdd, Int.reduceSub, Int.reduceNeg, Int.reduceEq, reduceCtorEq, Nat.reduceMod, Int.reduceBNe, Int.reduceBEq, Int.reduceGT, Int.reduceGE, Int.reduceNe, Int.cast_ofNat_Int, Int.natCast_zero, Int.natCast_one, bne_self_eq_false, gt_iff_lt, ge_iff_le, Int.lt_irrefl, Int.le_refl, hf']
  · have hc' : (checkV l != 0) = true := by rw [bne_iff_ne]; exact hc
    rw [show headV l = z32 by unfold headV; rw [if_neg hc], show headE l = checkV l by unfold headE; rw [if_neg hc], z32_N]
    simp -implicitDefEqProofs only [go_sem, reduceIte, Nat.reduceAdd, Nat.reduceSub, Nat.reduceMul, Nat.reduceLT, Nat.reduceLeDiff, Nat.reduceEqDiff, Nat.reduceBEq, Int.reduceLE, Int.reduceLT, Int.reduceToNat, Int.reduceMul, Int.reduceAdd, Int.reduceSub, Int.reduceNeg, Int.reduceEq, reduceCtorEq, Nat.reduceMod, Int.reduceBNe, Int.reduceBEq, Int.reduceGT, Int.reduceGE, Int.reduceNe, Int.cast_ofNat_Int, Int.natCast_zero, Int.natCast_one, bne_self_eq_false, gt_iff_lt, ge_iff_le, Int.lt_irrefl, Int.le_refl, hc']
end Go.Proofs.YtgkmhmhbepfiaaaDoor.Pm
