/- Texts of this proof in one file: PmTy, PmKl, PmKa, PmLa, PmCr, PmCs, PmCt, PmCf, PmCg. No law of Go's is stated here. -/
import Derived.Test.YtlfpafdkegnkoaaPmMc
import Derived.Test.YtlfpafdkegnkoaaRows
import Derived.KernelRfl
set_option linter.all false
set_option maxRecDepth 100000
namespace Go.Proofs.Ytlfpafdkegnkoaa.Pm
open Go Go.RowKit
noncomputable abbrev X : Cx := Xof Try.prog
@[go_sem] theorem ti2 : X.ti 2 = some ⟨.int .i64, 1, 8, [.i .i64 0]⟩ := by kernel_rfl
@[go_sem] theorem ti3 : X.ti 3 = some ⟨.int .i64, 1, 8, [.i .i64 0]⟩ := by kernel_rfl
@[go_sem] theorem ti4 : X.ti 4 = some ⟨.bool, 1, 1, [.b false]⟩ := by kernel_rfl
@[go_sem] theorem ti5 : X.ti 5 = some ⟨.int .u8, 1, 1, [.i .u8 0]⟩ := by kernel_rfl
@[go_sem] theorem ti6 : X.ti 6 = some ⟨.int .u8, 1, 1, [.i .u8 0]⟩ := by kernel_rfl
@[go_sem] theorem ti7 : X.ti 7 = some ⟨.struct [(0, 2), (1, 3), (2, 4), (3, 6)], 4, 24, [.i .i64 0, .i .i64 0, .b false, .i .u8 0]⟩ := by kernel_rfl
@[go_sem] theorem ti8 : X.ti 8 = some ⟨.struct [(0, 2), (1, 3), (2, 4), (3, 6)], 4, 24, [.i .i64 0, .i .i64 0, .b false, .i .u8 0]⟩ := by kernel_rfl
@[go_sem] theorem ti9 : X.ti 9 = some ⟨.str, 1, 16, [.s ⟨#[]⟩]⟩ := by kernel_rfl
@[go_sem] theorem ti10 : X.ti 10 = some ⟨.str, 1, 16, [.s ⟨#[]⟩]⟩ := by kernel_rfl
@[go_sem] theorem ti11 : X.ti 11 = some ⟨.str, 1, 16, [.s ⟨#[]⟩]⟩ := by kernel_rfl
@[go_sem] theorem ti12 : X.ti 12 = some ⟨.int .u64, 1, 8, [.i .u64 0]⟩ := by kernel_rfl
@[go_sem] theorem ti13 : X.ti 13 = some ⟨.struct [(0, 9), (1, 12)], 2, 24, [.s ⟨#[]⟩, .i .u64 0]⟩ := by kernel_rfl
@[go_sem] theorem ti14 : X.ti 14 = some ⟨.struct [(0, 9), (1, 12)], 2, 24, [.s ⟨#[]⟩, .i .u64 0]⟩ := by kernel_rfl
@[go_sem] theorem ti21 : X.ti 21 = some ⟨.int .i32, 1, 4, [.i .i32 0]⟩ := by kernel_rfl
@[go_sem] theorem ti22 : X.ti 22 = some ⟨.slice 40, 1, 24, [.sl []]⟩ := by kernel_rfl
@[go_sem] theorem ti24 : X.ti 24 = some ⟨.slice 5, 1, 24, [.sl []]⟩ := by kernel_rfl
@[go_sem] theorem ti25 : X.ti 25 = some ⟨.struct [(0, 24), (1, 24), (2, 3), (3, 4)], 4, 64, [.sl [], .sl [], .i .i64 0, .b false]⟩ := by kernel_rfl
@[go_sem] theorem ti26 : X.ti 26 = some ⟨.struct [(0, 24), (1, 24), (2, 3), (3, 4)], 4, 64, [.sl [], .sl [], .i .i64 0, .b false]⟩ := by kernel_rfl
@[go_sem] theorem ti27 : X.ti 27 = some ⟨.array 2 26, 8, 128, [.sl [], .sl [], .i .i64 0, .b false, .sl [], .sl [], .i .i64 0, .b false]⟩ := by kernel_rfl
@[go_sem] theorem ti28 : X.ti 28 = some ⟨.struct [(0, 27), (8, 3)], 9, 136, [.sl [], .sl [], .i .i64 0, .b false, .sl [], .sl [], .i .i64 0, .b false, .i .i64 0]⟩ := by kernel_rfl
@[go_sem] theorem ti29 : X.ti 29 = some ⟨.struct [(0, 27), (8, 3)], 9, 136, [.sl [], .sl [], .i .i64 0, .b false, .sl [], .sl [], .i .i64 0, .b false, .i .i64 0]⟩ := by kernel_rfl
@[go_sem] theorem ti30 : X.ti 30 = some ⟨.struct [(0, 26), (4, 3), (5, 3)], 6, 80, [.sl [], .sl [], .i .i64 0, .b false, .i .i64 0, .i .i64 0]⟩ := by kernel_rfl
@[go_sem] theorem ti31 : X.ti 31 = some ⟨.struct [(0, 26), (4, 3), (5, 3)], 6, 80, [.sl [], .sl [], .i .i64 0, .b false, .i .i64 0, .i .i64 0]⟩ := by kernel_rfl
@[go_sem] theorem ti32 : X.ti 32 = some ⟨.array 8 3, 8, 64, [.i .i64 0, .i .i64 0, .i .i64 0, .i .i64 0, .i .i64 0, .i .i64 0, .i .i64 0, .i .i64 0]⟩ := by kernel_rfl
@[go_sem] theorem ti33 : X.ti 33 = some ⟨.struct [(0, 29), (9, 31), (15, 32)], 23, 280, [.sl [], .sl [], .i .i64 0, .b false, .sl [], .sl [], .i .i64 0, .b false, .i .i64 0, .sl [], .sl [], .i .i64 0, .b false, .i .i64 0, .i .i64 0, .i .i64 0, .i .i64 0, .i .i64 0, .i .i64 0, .i .i64 0, .i .i64 0, .i .i64 0, .i .i64 0]⟩ := by kernel_rfl
@[go_sem] theorem ti34 : X.ti 34 = some ⟨.struct [(0, 29), (9, 31), (15, 32)], 23, 280, [.sl [], .sl [], .i .i64 0, .b false, .sl [], .sl [], .i .i64 0, .b false, .i .i64 0, .sl [], .sl [], .i .i64 0, .b false, .i .i64 0, .i .i64 0, .i .i64 0, .i .i64 0, .i .i64 0, .i .i64 0, .i .i64 0, .i .i64 0, .i .i64 0, .i .i64 0]⟩ := by kernel_rfl
@[go_sem] theorem ti35 : X.ti 35 = some ⟨.int .i64, 1, 8, [.i .i64 0]⟩ := by kernel_rfl
@[go_sem] theorem ti38 : X.ti 38 = some ⟨.slice 43, 1, 24, [.sl []]⟩ := by kernel_rfl
@[go_sem] theorem ti39 : X.ti 39 = some ⟨.struct [(0, 3), (1, 3)], 2, 16, [.i .i64 0, .i .i64 0]⟩ := by kernel_rfl
@[go_sem] theorem ti40 : X.ti 40 = some ⟨.struct [(0, 3), (1, 3)], 2, 16, [.i .i64 0, .i .i64 0]⟩ := by kernel_rfl
@[go_sem] theorem ti42 : X.ti 42 = some ⟨.struct [(0, 5), (1, 24), (2, 3)], 3, 40, [.i .u8 0, .sl [], .i .i64 0]⟩ := by kernel_rfl
@[go_sem] theorem ti43 : X.ti 43 = some ⟨.struct [(0, 5), (1, 24), (2, 3)], 3, 40, [.i .u8 0, .sl [], .i .i64 0]⟩ := by kernel_rfl
@[go_sem] theorem ti46 : X.ti 46 = some ⟨.struct [(0, 3), (1, 24)], 2, 32, [.i .i64 0, .sl []]⟩ := by kernel_rfl
@[go_sem] theorem ti47 : X.ti 47 = some ⟨.struct [(0, 3), (1, 24)], 2, 32, [.i .i64 0, .sl []]⟩ := by kernel_rfl
@[go_sem] theorem ti82 : X.ti 82 = some ⟨.int .u32, 1, 4, [.i .u32 0]⟩ := by kernel_rfl
@[go_sem] theorem ti85 : X.ti 85 = some ⟨.int .u64, 1, 8, [.i .u64 0]⟩ := by kernel_rfl
@[go_sem] theorem ti96 : X.ti 96 = some ⟨.slice 47, 1, 24, [.sl []]⟩ := by kernel_rfl
@[go_sem] theorem ti113 : X.ti 113 = some ⟨.struct [(0, 31), (6, 96)], 7, 104, [.sl [], .sl [], .i .i64 0, .b false, .i .i64 0, .i .i64 0, .sl []]⟩ := by kernel_rfl
@[go_sem] theorem ti114 : X.ti 114 = some ⟨.struct [(0, 31), (6, 96)], 7, 104, [.sl [], .sl [], .i .i64 0, .b false, .i .i64 0, .i .i64 0, .sl []]⟩ := by kernel_rfl
@[go_sem] theorem ti121 : X.ti 121 = some ⟨.slice 3, 1, 24, [.sl []]⟩ := by kernel_rfl
@[go_sem] theorem ti124 : X.ti 124 = some ⟨.int .u64, 1, 8, [.i .u64 0]⟩ := by kernel_rfl
@[go_sem] theorem ti138 : X.ti 138 = some ⟨.slice 24, 1, 24, [.sl []]⟩ := by kernel_rfl
@[go_sem] theorem ti141 : X.ti 141 = some ⟨.array 256 82, 256, 1024, List.replicate 256 (.i .u32 0)⟩ := by kernel_rfl
@[go_sem] theorem ti147 : X.ti 147 = some ⟨.array 0 16, 0, 0, []⟩ := by kernel_rfl
@[go_sem] theorem ti148 : X.ti 148 = some ⟨.struct [(0, 147)], 0, 0, []⟩ := by kernel_rfl
@[go_sem] theorem ti149 : X.ti 149 = some ⟨.struct [(0, 147)], 0, 0, []⟩ := by kernel_rfl
@[go_sem] theorem ti150 : X.ti 150 = some ⟨.int .u8, 1, 1, [.i .u8 0]⟩ := by kernel_rfl
@[go_sem] theorem ti151 : X.ti 151 = some ⟨.int .u8, 1, 1, [.i .u8 0]⟩ := by kernel_rfl
@[go_sem] theorem ti154 : X.ti 154 = some ⟨.int .i32, 1, 4, [.i .i32 0]⟩ := by kernel_rfl
@[go_sem] theorem ti155 : X.ti 155 = some ⟨.int .i32, 1, 4, [.i .i32 0]⟩ := by kernel_rfl
theorem mixed : Try.prog.follows .mixedOrders = true := by kernel_rfl
end Go.Proofs.Ytlfpafdkegnkoaa.Pm
set_option linter.all false
set_option maxRecDepth 100000
namespace Go.Proofs.Ytlfpafdkegnkoaa.Pm
open Go Go.RowKit
def c_ref01_SameBytes : C := (.seq (.seq (.reg ([⟨some 4, .assign (.const (.bool false)), none⟩])) (.keep [0, 1])) (.seq (.seq (.seq (.reg ([⟨some 6, .move (.tmp 0), none⟩, ⟨some 7, .call { callee := .builtin .len, args := #[(.tmp 6)], argTypes := #[24] }, none⟩, ⟨some 8, .move (.tmp 1), none⟩, ⟨some 9, .call { callee := .builtin .len, args := #[(.tmp 8)], argTypes := #[24] }, none⟩, ⟨some 10, .binOp .neq 3 (.tmp 7) (.tmp 9) 3, none⟩])) (.keep [0, 1, 10])) (.cond (.tmp 10) (.seq (.seq (.reg ([⟨some 4, .assign (.const (.bool false)), none⟩])) (.keep [4])) .ret) .skip)) (.seq (.seq (.seq (.reg ([⟨some 5, .assign (.const (.int .i64 0)), none⟩])) (.keep [0, 1, 5])) (.block 0 (.loop [] [0, 1, 5] (.seq (.seq (.seq (.reg ([⟨some 11, .move (.tmp 5), none⟩, ⟨some 12, .move (.tmp 0), none⟩, ⟨some 13, .call { callee := .builtin .len, args := #[(.tmp 12)], argTypes := #[24] }, none⟩, ⟨some 14, .binOp .lss 3 (.tmp 11) (.tmp 13) 3, none⟩])) (.keep [0, 1, 5, 14])) (.cond (.tmp 14) .skip (.exit 0))) (.seq (.block 1 (.seq (.seq (.draw ([⟨⟨some 17, .move (.tmp 0), none⟩, []⟩, ⟨⟨some 18, .move (.tmp 5), none⟩, [0]⟩, ⟨⟨some 19, .indexAddr 24 (.tmp 17) (.tmp 18), none⟩, []⟩, ⟨⟨some 20, .load 5 (.tmp 19), none⟩, []⟩, ⟨⟨some 21, .move (.tmp 1), none⟩, [0, 1, 2, 3]⟩, ⟨⟨some 22, .move (.tmp 5), none⟩, [0, 1, 2, 3, 4]⟩, ⟨⟨some 23, .indexAddr 24 (.tmp 21) (.tmp 22), none⟩, [0, 1, 2, 3]⟩, ⟨⟨some 24, .load 5 (.tmp 23), none⟩, [0, 1, 2, 3]⟩, ⟨⟨some 25, .binOp .neq 5 (.tmp 20) (.tmp 24) 5, none⟩, []⟩])) (.keep [0, 1, 5, 25])) (.cond (.tmp 25) (.seq (.seq (.reg ([⟨some 4, .assign (.const (.bool false)), none⟩])) (.keep [4])) .ret) .skip))) (.seq (.reg ([⟨some 15, .move (.tmp 5), none⟩, ⟨some 16, .binOp .add 3 (.tmp 15) (.const (.int .i64 1)) 3, none⟩, ⟨some 5, .assign (.tmp 16), none⟩])) (.keep [0, 1, 5]))))))) (.seq (.seq (.reg ([⟨some 4, .assign (.const (.bool true)), none⟩])) (.keep [4])) .ret))))
attribute [go_sem ↓] c_ref01_SameBytes
def h_ref01_SameBytes : List Hint := [⟨[], [0, 1], []⟩, ⟨[], [0, 1, 10], []⟩, ⟨[], [4], []⟩, ⟨[], [0, 1, 5], []⟩, ⟨[], [0, 1, 5], []⟩, ⟨[], [0, 1, 5, 14], []⟩, ⟨[], [0, 1, 5, 25], []⟩, ⟨[], [4], []⟩, ⟨[], [0, 1, 5], []⟩, ⟨[], [4], []⟩]
theorem b_ref01_SameBytes : Body Try.prog 42 [] h_ref01_SameBytes c_ref01_SameBytes 26 [.tmp 4] := body_of Try.func42 (by kernel_rfl) (by kernel_rfl) (by kernel_rfl) (by kernel_rfl)
def c_slices_Clone : C := (.seq (.seq (.reg ([⟨some 2, .assign (.const (.slice none 0 0)), none⟩])) (.keep [0])) (.seq (.seq (.seq (.reg ([⟨some 3, .move (.tmp 0), none⟩, ⟨some 4, .binOp .eql 24 (.tmp 3) (.const (.slice none 0 0)) 24, none⟩])) (.keep [0, 4])) (.cond (.tmp 4) (.seq (.seq (.reg ([⟨some 2, .assign (.const (.slice none 0 0)), none⟩])) (.keep [2])) .ret) .skip)) (.seq (.seq (.reg ([⟨some 5, .buildSlice 24 0 #[], none⟩, ⟨some 6, .move (.tmp 0), none⟩, ⟨some 7, .call { callee := .builtin .append, args := #[(.tmp 5), (.tmp 6)], argTypes := #[24, 24] }, none⟩, ⟨some 2, .assign (.tmp 7), none⟩])) (.keep [2])) .ret)))
attribute [go_sem ↓] c_slices_Clone
def h_slices_Clone : List Hint := [⟨[], [0], []⟩, ⟨[], [0, 4], []⟩, ⟨[], [2], []⟩, ⟨[], [2], []⟩]
theorem b_slices_Clone : Body Try.prog 65 [] h_slices_Clone c_slices_Clone 8 [.tmp 2] := body_of Try.func65 (by kernel_rfl) (by kernel_rfl) (by kernel_rfl) (by kernel_rfl)
def c_slices_Concat : C := (.seq (.seq (.reg ([⟨some 2, .assign (.const (.slice none 0 0)), none⟩])) (.keep [0])) (.seq (.seq (.reg ([⟨some 3, .assign (.const (.int .i64 0)), none⟩])) (.keep [0, 3])) (.seq (.seq (.seq (.reg ([⟨some 9, .move (.tmp 0), none⟩, ⟨some 10, .call { callee := .builtin .len, args := #[(.tmp 9)], argTypes := #[138] }, none⟩, ⟨some 11, .move (.const (.int .i64 0)), none⟩])) (.keep [0, 3, 9, 10, 11])) (.block 0 (.loop [] [0, 3, 9, 10, 11] (.seq (.seq (.reg ([⟨some 12, .binOp .lss 3 (.tmp 11) (.tmp 10) 3, none⟩])) (.keep [0, 3, 9, 10, 11, 12])) (.seq (.cond (.tmp 12) .skip (.exit 0)) (.seq (.block 1 (.seq (.seq (.reg ([⟨some 13, .indexAddr 138 (.tmp 9) (.tmp 11), none⟩, ⟨some 14, .load 24 (.tmp 13), none⟩, ⟨some 5, .assign (.tmp 14), none⟩])) (.keep [0, 3, 5, 9, 10, 11])) (.seq (.seq (.reg ([⟨some 15, .move (.tmp 3), none⟩, ⟨some 16, .move (.tmp 5), none⟩, ⟨some 17, .call { callee := .builtin .len, args := #[(.tmp 16)], argTypes := #[24] }, none⟩, ⟨some 18, .binOp .add 3 (.tmp 15) (.tmp 17) 3, none⟩, ⟨some 3, .assign (.tmp 18), none⟩])) (.keep [0, 3, 9, 10, 11])) (.seq (.seq (.reg ([⟨some 19, .move (.tmp 3), none⟩, ⟨some 20, .binOp .lss 3 (.tmp 19) (.const (.int .i64 0)) 3, none⟩])) (.keep [0, 3, 9, 10, 11, 20])) (.cond (.tmp 20) (.seq (.reg ([⟨some 21, .makeInterface 9 (.const (.string ⟨#[108, 101, 110, 32, 111, 117, 116, 32, 111, 102, 32, 114, 97, 110, 103, 101]⟩)), none⟩, ⟨none, .panic (.tmp 21), none⟩])) (.keep [0, 3, 9, 10, 11])) .skip))))) (.seq (.reg ([⟨some 22, .binOp .add 3 (.tmp 11) (.const (.int .i64 1)) 3, none⟩, ⟨some 11, .move (.tmp 22), none⟩])) (.keep [0, 3, 9, 10, 11])))))))) (.seq (.seq (.reg ([⟨some 23, .move (.tmp 3), none⟩, ⟨some 24, .call { callee := .value (.func 86), args := #[(.const (.slice none 0 0)), (.tmp 23)], argTypes := #[24, 3] }, none⟩, ⟨some 6, .assign (.tmp 24), none⟩])) (.keep [0, 6])) (.seq (.seq (.seq (.reg ([⟨some 25, .move (.tmp 0), none⟩, ⟨some 26, .call { callee := .builtin .len, args := #[(.tmp 25)], argTypes := #[138] }, none⟩, ⟨some 27, .move (.const (.int .i64 0)), none⟩])) (.keep [6, 25, 26, 27])) (.block 2 (.loop [(6, 1)] [6, 25, 26, 27] (.seq (.seq (.reg ([⟨some 28, .binOp .lss 3 (.tmp 27) (.tmp 26) 3, none⟩])) (.keep [6, 25, 26, 27, 28])) (.seq (.cond (.tmp 28) .skip (.exit 2)) (.seq (.block 3 (.seq (.seq (.reg ([⟨some 29, .indexAddr 138 (.tmp 25) (.tmp 27), none⟩, ⟨some 30, .load 24 (.tmp 29), none⟩, ⟨some 8, .assign (.tmp 30), none⟩])) (.keep [6, 8, 25, 26, 27])) (.seq (.reg ([⟨some 31, .move (.tmp 6), none⟩, ⟨some 32, .move (.tmp 8), none⟩, ⟨some 33, .call { callee := .builtin .append, args := #[(.tmp 31), (.tmp 32)], argTypes := #[24, 24] }, none⟩, ⟨some 6, .assign (.tmp 33), none⟩])) (.keep [6, 25, 26, 27])))) (.seq (.reg ([⟨some 34, .binOp .add 3 (.tmp 27) (.const (.int .i64 1)) 3, none⟩, ⟨some 27, .move (.tmp 34), none⟩])) (.keep [6, 25, 26, 27])))))))) (.seq (.seq (.reg ([⟨some 35, .move (.tmp 6), none⟩, ⟨some 2, .assign (.tmp 35), none⟩])) (.keep [2])) .ret))))))
attribute [go_sem ↓] c_slices_Concat
def h_slices_Concat : List Hint := [⟨[], [0], []⟩, ⟨[], [0, 3], []⟩, ⟨[], [0, 3, 9, 10, 11], []⟩, ⟨[], [0, 3, 9, 10, 11], []⟩, ⟨[], [0, 3, 9, 10, 11, 12], []⟩, ⟨[], [0, 3, 5, 9, 10, 11], []⟩, ⟨[], [0, 3, 9, 10, 11], []⟩, ⟨[], [0, 3, 9, 10, 11, 20], []⟩, ⟨[], [0, 3, 9, 10, 11], []⟩, ⟨[], [0, 3, 9, 10, 11], []⟩, ⟨[], [0, 6], []⟩, ⟨[], [6, 25, 26, 27], []⟩, ⟨[(6, 1)], [6, 25, 26, 27], []⟩, ⟨[], [6, 25, 26, 27, 28], []⟩, ⟨[], [6, 8, 25, 26, 27], []⟩, ⟨[], [6, 25, 26, 27], []⟩, ⟨[], [6, 25, 26, 27], []⟩, ⟨[], [2], []⟩]
theorem b_slices_Concat : Body Try.prog 72 [] h_slices_Concat c_slices_Concat 36 [.tmp 2] := body_of Try.func72 (by kernel_rfl) (by kernel_rfl) (by kernel_rfl) (by kernel_rfl)
def c_bytes_Clone : C := (.seq (.seq (.reg ([⟨some 2, .assign (.const (.slice none 0 0)), none⟩])) (.keep [0])) (.seq (.seq (.seq (.reg ([⟨some 3, .move (.tmp 0), none⟩, ⟨some 4, .binOp .eql 24 (.tmp 3) (.const (.slice none 0 0)) 24, none⟩])) (.keep [0, 4])) (.cond (.tmp 4) (.seq (.seq (.reg ([⟨some 2, .assign (.const (.slice none 0 0)), none⟩])) (.keep [2])) .ret) .skip)) (.seq (.seq (.reg ([⟨some 5, .buildSlice 24 0 #[], none⟩, ⟨some 6, .move (.tmp 0), none⟩, ⟨some 7, .call { callee := .builtin .append, args := #[(.tmp 5), (.tmp 6)], argTypes := #[24, 24] }, none⟩, ⟨some 2, .assign (.tmp 7), none⟩])) (.keep [2])) .ret)))
attribute [go_sem ↓] c_bytes_Clone
def h_bytes_Clone : List Hint := [⟨[], [0], []⟩, ⟨[], [0, 4], []⟩, ⟨[], [2], []⟩, ⟨[], [2], []⟩]
theorem b_bytes_Clone : Body Try.prog 77 [] h_bytes_Clone c_bytes_Clone 8 [.tmp 2] := body_of Try.func77 (by kernel_rfl) (by kernel_rfl) (by kernel_rfl) (by kernel_rfl)
def c_slices_IndexFunc : C := (.seq (.seq (.reg ([⟨some 4, .assign (.const (.int .i64 0)), none⟩])) (.keep [0, 1])) (.seq (.seq (.seq (.reg ([⟨some 6, .move (.tmp 0), none⟩, ⟨some 7, .call { callee := .builtin .len, args := #[(.tmp 6)], argTypes := #[96] }, none⟩, ⟨some 8, .move (.const (.int .i64 0)), none⟩])) (.keep [0, 1, 7, 8])) (.block 0 (.loop [] [0, 1, 7, 8] (.seq (.seq (.reg ([⟨some 9, .binOp .lss 3 (.tmp 8) (.tmp 7) 3, none⟩])) (.keep [0, 1, 7, 8, 9])) (.seq (.cond (.tmp 9) .skip (.exit 0)) (.seq (.block 1 (.seq (.seq (.reg ([⟨some 10, .move (.tmp 8), none⟩, ⟨some 5, .assign (.tmp 10), none⟩])) (.keep [0, 1, 5, 7, 8])) (.seq (.seq (.reg ([⟨some 11, .move (.tmp 1), none⟩, ⟨some 12, .move (.tmp 0), none⟩, ⟨some 13, .move (.tmp 5), none⟩, ⟨some 14, .indexAddr 96 (.tmp 12) (.tmp 13), none⟩, ⟨some 15, .load 47 (.tmp 14), none⟩, ⟨some 16, .call { callee := .value (.tmp 11), args := #[(.tmp 15)], argTypes := #[47] }, none⟩])) (.keep [0, 1, 5, 7, 8, 16])) (.cond (.tmp 16) (.seq (.seq (.reg ([⟨some 17, .move (.tmp 5), none⟩, ⟨some 4, .assign (.tmp 17), none⟩])) (.keep [4])) .ret) .skip)))) (.seq (.reg ([⟨some 18, .binOp .add 3 (.tmp 8) (.const (.int .i64 1)) 3, none⟩, ⟨some 8, .move (.tmp 18), none⟩])) (.keep [0, 1, 7, 8])))))))) (.seq (.seq (.reg ([⟨some 4, .assign (.const (.int .i64 (-1))), none⟩])) (.keep [4])) .ret)))
attribute [go_sem ↓] c_slices_IndexFunc
def h_slices_IndexFunc : List Hint := [⟨[], [0, 1], []⟩, ⟨[], [0, 1, 7, 8], []⟩, ⟨[], [0, 1, 7, 8], []⟩, ⟨[], [0, 1, 7, 8, 9], []⟩, ⟨[], [0, 1, 5, 7, 8], []⟩, ⟨[], [0, 1, 5, 7, 8, 16], []⟩, ⟨[], [4], []⟩, ⟨[], [0, 1, 7, 8], []⟩, ⟨[], [4], []⟩]
theorem b_slices_IndexFunc : Body Try.prog 84 [] h_slices_IndexFunc c_slices_IndexFunc 19 [.tmp 4] := body_of Try.func84 (by kernel_rfl) (by kernel_rfl) (by kernel_rfl) (by kernel_rfl)
def c_slices_Grow : C := (.seq (.seq (.reg ([⟨some 4, .assign (.const (.slice none 0 0)), none⟩])) (.keep [0, 1])) (.seq (.seq (.seq (.reg ([⟨some 5, .move (.tmp 1), none⟩, ⟨some 6, .binOp .lss 3 (.tmp 5) (.const (.int .i64 0)) 3, none⟩])) (.keep [0, 1, 6])) (.cond (.tmp 6) (.seq (.reg ([⟨some 7, .makeInterface 9 (.const (.string ⟨#[99, 97, 110, 110, 111, 116, 32, 98, 101, 32, 110, 101, 103, 97, 116, 105, 118, 101]⟩)), none⟩, ⟨none, .panic (.tmp 7), none⟩])) (.keep [0, 1])) .skip)) (.seq (.seq (.seq (.reg ([⟨some 8, .move (.tmp 1), none⟩, ⟨some 9, .move (.tmp 0), none⟩, ⟨some 10, .call { callee := .builtin .cap, args := #[(.tmp 9)], argTypes := #[24] }, none⟩, ⟨some 11, .move (.tmp 0), none⟩, ⟨some 12, .call { callee := .builtin .len, args := #[(.tmp 11)], argTypes := #[24] }, none⟩, ⟨some 13, .binOp .sub 3 (.tmp 10) (.tmp 12) 3, none⟩, ⟨some 14, .binOp .sub 3 (.tmp 8) (.tmp 13) 3, none⟩, ⟨some 1, .assign (.tmp 14), none⟩])) (.keep [0, 1])) (.seq (.seq (.reg ([⟨some 15, .move (.tmp 1), none⟩, ⟨some 16, .binOp .gtr 3 (.tmp 15) (.const (.int .i64 0)) 3, none⟩])) (.keep [0, 1, 16])) (.cond (.tmp 16) (.seq (.reg ([⟨some 17, .move (.tmp 0), none⟩, ⟨some 18, .move (.tmp 0), none⟩, ⟨some 19, .call { callee := .builtin .cap, args := #[(.tmp 18)], argTypes := #[24] }, none⟩, ⟨some 20, .slice 24 (.tmp 17) none (some (.tmp 19)) none, none⟩, ⟨some 21, .move (.tmp 1), none⟩, ⟨some 22, .call { callee := .builtin .append, args := #[(.tmp 20), (.tmp 21)], argTypes := #[24, 3] }, none⟩, ⟨some 23, .move (.tmp 0), none⟩, ⟨some 24, .call { callee := .builtin .len, args := #[(.tmp 23)], argTypes := #[24] }, none⟩, ⟨some 25, .slice 24 (.tmp 22) none (some (.tmp 24)) none, none⟩, ⟨some 0, .assign (.tmp 25), none⟩])) (.keep [0])) .skip))) (.seq (.seq (.reg ([⟨some 26, .move (.tmp 0), none⟩, ⟨some 4, .assign (.tmp 26), none⟩])) (.keep [4])) .ret))))
attribute [go_sem ↓] c_slices_Grow
def h_slices_Grow : List Hint := [⟨[], [0, 1], []⟩, ⟨[], [0, 1, 6], []⟩, ⟨[], [0, 1], []⟩, ⟨[], [0, 1], []⟩, ⟨[], [0, 1, 16], []⟩, ⟨[], [0], []⟩, ⟨[], [4], []⟩]
theorem b_slices_Grow : Body Try.prog 86 [] h_slices_Grow c_slices_Grow 27 [.tmp 4] := body_of Try.func86 (by kernel_rfl) (by kernel_rfl) (by kernel_rfl) (by kernel_rfl)
end Go.Proofs.Ytlfpafdkegnkoaa.Pm
set_option linter.all false
set_option maxRecDepth 100000
namespace Go.Proofs.Ytlfpafdkegnkoaa.Pm
open Go Go.RowKit
def c_crc_Sum : C := (.seq (.seq (.reg ([⟨some 2, .assign (.const (.int .u32 0)), none⟩, ⟨some 3, .assign (.const (.int .i64 0)), none⟩])) (.keep [0])) (.seq (.seq (.reg ([⟨some 4, .move (.tmp 0), none⟩, ⟨some 5, .call { callee := .value (.func 74), args := #[(.const (.int .u32 0)), (.tmp 4)], argTypes := #[82, 24] }, none⟩, ⟨some 6, .extract (.tmp 5) 0, none⟩, ⟨some 7, .extract (.tmp 5) 1, none⟩, ⟨some 2, .assign (.tmp 6), none⟩, ⟨some 3, .assign (.tmp 7), none⟩])) (.keep [2, 3])) .ret))
attribute [go_sem ↓] c_crc_Sum
def h_crc_Sum : List Hint := [⟨[], [0], []⟩, ⟨[], [2, 3], []⟩]
theorem b_crc_Sum : Body Try.prog 36 [] h_crc_Sum c_crc_Sum 8 [.tmp 2, .tmp 3] := body_of Try.func36 (by kernel_rfl) (by kernel_rfl) (by kernel_rfl) (by kernel_rfl)
def c_crc_Update : C := (.seq (.seq (.reg ([⟨some 4, .assign (.const (.int .u32 0)), none⟩, ⟨some 5, .assign (.const (.int .i64 0)), none⟩])) (.keep [0, 1])) (.seq (.seq (.seq (.reg ([⟨some 6, .move (.tmp 1), none⟩, ⟨some 7, .call { callee := .builtin .len, args := #[(.tmp 6)], argTypes := #[24] }, none⟩, ⟨some 8, .binOp .gtr 3 (.tmp 7) (.const (.int .i64 20000)) 3, none⟩])) (.keep [0, 1, 8])) (.cond (.tmp 8) (.seq (.seq (.reg ([⟨some 4, .assign (.const (.int .u32 0)), none⟩, ⟨some 5, .assign (.const (.int .i64 4)), none⟩])) (.keep [4, 5])) .ret) .skip)) (.seq (.seq (.reg ([⟨some 9, .move (.tmp 0), none⟩, ⟨some 10, .unOp .xor 82 (.tmp 9), none⟩, ⟨some 11, .move (.tmp 1), none⟩, ⟨some 12, .buildSlice 138 1 #[(0, (.tmp 11))], none⟩, ⟨some 13, .call { callee := .value (.func 87), args := #[(.tmp 10), (.tmp 12)], argTypes := #[82, 138] }, none⟩, ⟨some 14, .unOp .xor 82 (.tmp 13), none⟩, ⟨some 4, .assign (.tmp 14), none⟩, ⟨some 5, .assign (.const (.int .i64 0)), none⟩])) (.keep [4, 5])) .ret)))
attribute [go_sem ↓] c_crc_Update
def h_crc_Update : List Hint := [⟨[], [0, 1], []⟩, ⟨[], [0, 1, 8], []⟩, ⟨[], [4, 5], []⟩, ⟨[], [4, 5], []⟩]
theorem b_crc_Update : Body Try.prog 74 [] h_crc_Update c_crc_Update 15 [.tmp 4, .tmp 5] := body_of Try.func74 (by kernel_rfl) (by kernel_rfl) (by kernel_rfl) (by kernel_rfl)
def c_crc_run : C := (.seq (.seq (.reg ([⟨some 4, .assign (.const (.int .u32 0)), none⟩])) (.keep [0, 1])) (.seq (.seq (.reg ([⟨some 10, .call { callee := .value (.func 88), args := #[], argTypes := #[] }, none⟩, ⟨some 5, .alloc 141, none⟩, ⟨none, .store 141 (.tmp 5) (.tmp 10), none⟩])) (.keep [0, 1, 5])) (.seq (.seq (.seq (.reg ([⟨some 11, .move (.tmp 1), none⟩, ⟨some 12, .call { callee := .builtin .len, args := #[(.tmp 11)], argTypes := #[138] }, none⟩, ⟨some 13, .move (.const (.int .i64 0)), none⟩])) (.keep [0, 5, 11, 12, 13])) (.block 0 (.loop [] [0, 5, 11, 12, 13] (.seq (.seq (.reg ([⟨some 14, .binOp .lss 3 (.tmp 13) (.tmp 12) 3, none⟩])) (.keep [0, 5, 11, 12, 13, 14])) (.seq (.cond (.tmp 14) .skip (.exit 0)) (.seq (.block 1 (.seq (.seq (.reg ([⟨some 15, .indexAddr 138 (.tmp 11) (.tmp 13), none⟩, ⟨some 16, .load 24 (.tmp 15), none⟩, ⟨some 7, .assign (.tmp 16), none⟩])) (.keep [0, 5, 7, 11, 12, 13])) (.seq (.seq (.reg ([⟨some 17, .move (.tmp 7), none⟩, ⟨some 18, .call { callee := .builtin .len, args := #[(.tmp 17)], argTypes := #[24] }, none⟩, ⟨some 19, .move (.const (.int .i64 0)), none⟩])) (.keep [0, 5, 11, 12, 13, 17, 18, 19])) (.block 2 (.loop [] [0, 5, 11, 12, 13, 17, 18, 19] (.seq (.seq (.reg ([⟨some 20, .binOp .lss 3 (.tmp 19) (.tmp 18) 3, none⟩])) (.keep [0, 5, 11, 12, 13, 17, 18, 19, 20])) (.seq (.cond (.tmp 20) .skip (.exit 2)) (.seq (.block 3 (.seq (.seq (.reg ([⟨some 21, .indexAddr 24 (.tmp 17) (.tmp 19), none⟩, ⟨some 22, .load 5 (.tmp 21), none⟩, ⟨some 9, .assign (.tmp 22), none⟩])) (.keep [0, 5, 9, 11, 12, 13, 17, 18, 19])) (.seq (.reg ([⟨some 23, .move (.tmp 0), none⟩, ⟨some 24, .binOp .shr 82 (.tmp 23) (.const (.int .u64 8)) 85, none⟩, ⟨some 25, .move (.tmp 0), none⟩, ⟨some 26, .convert 82 5 (.tmp 25), none⟩, ⟨some 27, .move (.tmp 9), none⟩, ⟨some 28, .binOp .xor 5 (.tmp 26) (.tmp 27) 5, none⟩, ⟨some 29, .indexAddr 141 (.tmp 5) (.tmp 28), none⟩, ⟨some 30, .load 82 (.tmp 29), none⟩, ⟨some 31, .binOp .xor 82 (.tmp 24) (.tmp 30) 82, none⟩, ⟨some 0, .assign (.tmp 31), none⟩])) (.keep [0, 5, 11, 12, 13, 17, 18, 19])))) (.seq (.reg ([⟨some 32, .binOp .add 3 (.tmp 19) (.const (.int .i64 1)) 3, none⟩, ⟨some 19, .move (.tmp 32), none⟩])) (.keep [0, 5, 11, 12, 13, 17, 18, 19])))))))))) (.seq (.reg ([⟨some 33, .binOp .add 3 (.tmp 13) (.const (.int .i64 1)) 3, none⟩, ⟨some 13, .move (.tmp 33), none⟩])) (.keep [0, 5, 11, 12, 13])))))))) (.seq (.seq (.reg ([⟨some 34, .move (.tmp 0), none⟩, ⟨some 4, .assign (.tmp 34), none⟩])) (.keep [4])) .ret))))
attribute [go_sem ↓] c_crc_run
def h_crc_run : List Hint := [⟨[], [0, 1], []⟩, ⟨[], [0, 1, 5], []⟩, ⟨[], [0, 5, 11, 12, 13], []⟩, ⟨[], [0, 5, 11, 12, 13], []⟩, ⟨[], [0, 5, 11, 12, 13, 14], []⟩, ⟨[], [0, 5, 7, 11, 12, 13], []⟩, ⟨[], [0, 5, 11, 12, 13, 17, 18, 19], []⟩, ⟨[], [0, 5, 11, 12, 13, 17, 18, 19], []⟩, ⟨[], [0, 5, 11, 12, 13, 17, 18, 19, 20], []⟩, ⟨[], [0, 5, 9, 11, 12, 13, 17, 18, 19], []⟩, ⟨[], [0, 5, 11, 12, 13, 17, 18, 19], []⟩, ⟨[], [0, 5, 11, 12, 13, 17, 18, 19], []⟩, ⟨[], [0, 5, 11, 12, 13], []⟩, ⟨[], [4], []⟩]
theorem b_crc_run : Body Try.prog 87 [] h_crc_run c_crc_run 35 [.tmp 4] := body_of Try.func87 (by kernel_rfl) (by kernel_rfl) (by kernel_rfl) (by kernel_rfl)
def c_crc_table : C := (.seq (.seq (.reg ([⟨some 0, .alloc 141, none⟩])) (.keep [0])) (.seq (.seq (.seq (.reg ([⟨some 2, .move (.const (.int .i64 0)), none⟩])) (.keep [0, 2])) (.block 0 (.loop [] [0, 2] (.seq (.seq (.reg ([⟨some 3, .binOp .lss 3 (.tmp 2) (.const (.int .i64 256)) 3, none⟩])) (.keep [0, 2, 3])) (.seq (.cond (.tmp 3) .skip (.exit 0)) (.seq (.block 1 (.seq (.seq (.reg ([⟨some 4, .move (.tmp 2), none⟩, ⟨some 1, .assign (.tmp 4), none⟩])) (.keep [0, 1, 2])) (.seq (.reg ([⟨some 5, .move (.tmp 1), none⟩, ⟨some 6, .move (.tmp 1), none⟩, ⟨some 7, .convert 3 82 (.tmp 6), none⟩, ⟨some 8, .call { callee := .value (.func 89), args := #[(.tmp 7)], argTypes := #[82] }, none⟩, ⟨some 9, .indexAddr 141 (.tmp 0) (.tmp 5), none⟩, ⟨none, .store 82 (.tmp 9) (.tmp 8), none⟩])) (.keep [0, 2])))) (.seq (.reg ([⟨some 10, .binOp .add 3 (.tmp 2) (.const (.int .i64 1)) 3, none⟩, ⟨some 2, .move (.tmp 10), none⟩])) (.keep [0, 2])))))))) (.seq (.seq (.reg ([⟨some 11, .load 141 (.tmp 0), none⟩, ⟨none, .store 141 (.tmp 0) (.tmp 11), none⟩])) (.keep [0])) .ret)))
attribute [go_sem ↓] c_crc_table
def h_crc_table : List Hint := [⟨[], [0], []⟩, ⟨[], [0, 2], []⟩, ⟨[], [0, 2], []⟩, ⟨[], [0, 2, 3], []⟩, ⟨[], [0, 1, 2], []⟩, ⟨[], [0, 2], []⟩, ⟨[], [0, 2], []⟩, ⟨[], [0], []⟩]
theorem b_crc_table : Body Try.prog 88 [] h_crc_table c_crc_table 12 [.cell 0 141] := body_of Try.func88 (by kernel_rfl) (by kernel_rfl) (by kernel_rfl) (by kernel_rfl)
def c_crc_row : C := (.seq (.seq (.reg ([⟨some 2, .assign (.const (.int .u32 0)), none⟩])) (.keep [0])) (.seq (.seq (.seq (.reg ([⟨some 3, .move (.const (.int .i64 0)), none⟩])) (.keep [0, 3])) (.block 0 (.loop [] [0, 3] (.seq (.seq (.reg ([⟨some 4, .binOp .lss 3 (.tmp 3) (.const (.int .i64 8)) 3, none⟩])) (.keep [0, 3, 4])) (.seq (.cond (.tmp 4) .skip (.exit 0)) (.seq (.block 1 (.seq (.reg ([⟨some 5, .move (.tmp 0), none⟩, ⟨some 6, .binOp .shr 82 (.tmp 5) (.const (.int .u64 1)) 85, none⟩, ⟨some 7, .move (.tmp 0), none⟩, ⟨some 8, .binOp .and 82 (.tmp 7) (.const (.int .u32 1)) 82, none⟩, ⟨some 9, .unOp .neg 82 (.tmp 8), none⟩, ⟨some 10, .binOp .and 82 (.const (.int .u32 3988292384)) (.tmp 9) 82, none⟩, ⟨some 11, .binOp .xor 82 (.tmp 6) (.tmp 10) 82, none⟩, ⟨some 0, .assign (.tmp 11), none⟩])) (.keep [0, 3]))) (.seq (.reg ([⟨some 12, .binOp .add 3 (.tmp 3) (.const (.int .i64 1)) 3, none⟩, ⟨some 3, .move (.tmp 12), none⟩])) (.keep [0, 3])))))))) (.seq (.seq (.reg ([⟨some 13, .move (.tmp 0), none⟩, ⟨some 2, .assign (.tmp 13), none⟩])) (.keep [2])) .ret)))
attribute [go_sem ↓] c_crc_row
def h_crc_row : List Hint := [⟨[], [0], []⟩, ⟨[], [0, 3], []⟩, ⟨[], [0, 3], []⟩, ⟨[], [0, 3, 4], []⟩, ⟨[], [0, 3], []⟩, ⟨[], [0, 3], []⟩, ⟨[], [2], []⟩]
theorem b_crc_row : Body Try.prog 89 [] h_crc_row c_crc_row 14 [.tmp 2] := body_of Try.func89 (by kernel_rfl) (by kernel_rfl) (by kernel_rfl) (by kernel_rfl)
end Go.Proofs.Ytlfpafdkegnkoaa.Pm
set_option linter.all false
set_option maxRecDepth 100000
namespace Go.Proofs.Ytlfpafdkegnkoaa.Pm
open Go Go.RowKit
theorem s_slices_Grow (n : Nat) (h0 : 0 < n) (hn : n ≤ 1000000) : Spec Try.prog 86 [.nl, .i .i64 n] [.row 0 1 [] true] (.row 0 0 0 0) := by
  refine spec_ko (hold mixed) b_slices_Grow [.row 0 1 [] true] [.row 0 0 0 0] ?_
  have h1 : ((n : Int) < 0) = False := eq_false (by omega)
  have h2 : ((n : Int) > 0) = True := eq_true (by omega)
  have h3 : IntKind.i64.wrap ((n : Int) - 0) = n := by rw [wrap_i64_id (by omega) (by omega)]; omega
  have h4 : IntKind.i64.wrap ((n : Int)) = n := by rw [wrap_i64_id (by omega) (by omega)]
  have h5 : IntKind.i64.wrap 0 = 0 := by decide
  simp -implicitDefEqProofs only [go_sem, seval, h1, h2, h3, h4, h5, Int.natCast_zero]
  refine ⟨⟨by unfold room; omega, by unfold room; omega⟩, ends_mk [0] ?_ ?_⟩ <;> simp -implicitDefEqProofs only [go_sem, seval]
theorem s_slices_Grow0 : Spec Try.prog 86 [.nl, .i .i64 0] [] .nl := by
  refine spec_ko (hold mixed) b_slices_Grow [] [.nl] ?_
  have h5 : IntKind.i64.wrap 0 = 0 := by decide
  simp -implicitDefEqProofs only [go_sem, seval, h5, Int.natCast_zero, gt_iff_lt, Int.lt_irrefl]
  refine ends_mk [] ?_ ?_ <;> simp -implicitDefEqProofs only [go_sem, seval]
def catE (bss : List (List (BitVec 8))) : List (List T) := bss.map fun bs => [.sl (bT bs)]
def catL (bss : List (List (BitVec 8))) : Nat := bss.flatten.length
theorem catE_length (bss : List (List (BitVec 8))) : (catE bss).length = bss.length := by simp [catE]
theorem catE_get {bss : List (List (BitVec 8))} {k : Nat} (h : k < bss.length) : (catE bss)[k]? = some [.sl (bT bss[k])] := by simp [catE, h]
theorem flat_step {bss : List (List (BitVec 8))} {k : Nat} (h : k < bss.length) : (bss.take (k + 1)).flatten = (bss.take k).flatten ++ bss[k] := by
  rw [← List.take_append_getElem h, List.flatten_append]; simp
theorem catL_step {bss : List (List (BitVec 8))} {k : Nat} (h : k < bss.length) : catL (bss.take (k + 1)) = catL (bss.take k) + bss[k].length := by
  unfold catL; rw [flat_step h, List.length_append]
theorem catL_le (bss : List (List (BitVec 8))) (k : Nat) : catL (bss.take k) ≤ catL bss := by
  unfold catL
  conv => rhs; rw [← List.take_append_drop k bss]
  rw [List.flatten_append, List.length_append]
  omega
def catF (bss : List (List (BitVec 8))) (k : Nat) : S := ⟨tmL [(6, .row 0 k 0 (catL (bss.take k))), (25, .t (.sl (catE bss)) false), (26, .t (.i .i64 bss.length) true), (27, .t (.i .i64 k) true)], [.row k 1 (bT (bss.take k).flatten) true]⟩
theorem okEs_bT (bs : List (BitVec 8)) : okEs 1 (bT bs) := by
  intro e he
  simp only [bT, List.mem_map] at he
  obtain ⟨_, _, rfl⟩ := he
  simp [T.one]
theorem bT_append (xs ys : List (BitVec 8)) : bT (xs ++ ys) = bT xs ++ bT ys := by simp [bT]
theorem catF_row (bss : List (List (BitVec 8))) {k : Nat} (hk : k < bss.length) : List.take (catL (bss.take k)) (bT (bss.take k).flatten) ++ bT bss[k] = bT (bss.take (k + 1)).flatten := by
  rw [flat_step hk, bT_append, List.take_of_length_le (by rw [bT_length]; exact Nat.le_refl _)]
theorem s_slices_Concat (bss : List (List (BitVec 8))) (hn : bss.length ≤ 1000) (hl : catL bss ≤ 1000000) : Spec Try.prog 72 [.sl (catE bss)] [.row 0 1 (bT bss.flatten) true] (.row 0 0 0 (catL bss)) := by
  refine spec_ko (hold mixed) b_slices_Concat [.row 0 1 (bT bss.flatten) true] [.row 0 0 0 (catL bss)] ?_
  simp -implicitDefEqProofs only [go_sem, seval, catE_length]
  refine loop_l (α := Nat) (fun k => ⟨tmL [(0, .t (.sl (catE bss)) false), (3, .t (.i .i64 (catL (bss.take k))) true), (9, .t (.sl (catE bss)) false), (10, .t (.i .i64 bss.length) true), (11, .t (.i .i64 k) true)], []⟩) (fun k => bss.length - k) (fun k => k ≤ bss.length) 0 (by simp -implicitDefEqProofs only [go_sem, seval]; rfl) (by omega) ?_
  intro k hk R hR
  simp -implicitDefEqProofs only [go_sem, seval]
  refine wcond_mk (fun h => ?_) (fun h => ?_)
  · have hk' : k < bss.length := by have := of_decide_eq_true h; omega
    have hs := catL_step hk'
    have hb := catL_le bss (k + 1)
    have hw : IntKind.i64.wrap (((catL (bss.take k) : Nat) : Int) + ((bss[k].length : Nat) : Int)) = ((catL (bss.take (k + 1)) : Nat) : Int) := by rw [wrap_i64_id (by omega) (by omega)]; omega
    have hneg : (((catL (bss.take (k + 1)) : Nat) : Int) < 0) = False := eq_false (by omega)
    simp -implicitDefEqProofs only [go_sem, seval, catE_get hk', catE_length, hw, hneg]
    refine hR (k + 1) _ ?_ (by omega) (by omega)
    simp -implicitDefEqProofs only [go_sem, seval, wrap_i64_id (show -9223372036854775808 ≤ (k : Int) + 1 by omega) (by omega), Int.natCast_add]
    try rfl
  · have hk' : ¬ k < bss.length := by have := of_decide_eq_false h; omega
    obtain rfl : k = bss.length := by omega
    simp -implicitDefEqProofs only [go_sem, seval, List.take_length]
    by_cases h0 : 0 < catL bss
    · refine call_k (s_slices_Grow (catL bss) h0 hl) ?_
      simp -implicitDefEqProofs only [go_sem, seval]
      refine loop_l (α := Nat) (catF bss) (fun k => bss.length - k) (fun k => k ≤ bss.length) 0 (by simp -implicitDefEqProofs only [go_sem, seval, catE_length]; rfl) (by omega) ?_
      intro k hk R hR
      simp -implicitDefEqProofs only [go_sem, seval, catF]
      refine wcond_mk (fun h => ?_) (fun h => ?_)
      · have hk' : k < bss.length := by have := of_decide_eq_true h; omega
        have hs := catL_step hk'
        have hb := catL_le bss (k + 1)
        simp -implicitDefEqProofs only [go_sem, seval, catE_get hk', catE_length]
        refine ⟨⟨okEs_bT _, Nat.le_refl _, by unfold room; omega⟩, hR (k + 1) _ ?_ (by omega) (by omega)⟩
        simp -implicitDefEqProofs only [go_sem, seval, wrap_i64_id (show -9223372036854775808 ≤ (k : Int) + 1 by omega) (by omega), Int.natCast_add]
        rw [← hs, catF_row bss hk']
        rfl
      · have hk' : ¬ k < bss.length := by have := of_decide_eq_false h; omega
        obtain rfl : k = bss.length := by omega
        simp -implicitDefEqProofs only [go_sem, seval, List.take_length]
        refine ends_mk [0] ?_ ?_
        · simp -implicitDefEqProofs only [go_sem, seval]
          exact List.take_of_length_le (by rw [bT_length]; exact Nat.le_refl _)
        · simp -implicitDefEqProofs only [go_sem, seval]
    · have hz : catL bss = 0 := by omega
      refine call_k s_slices_Grow0 ?_ (by simp -implicitDefEqProofs only [go_sem, seval, hz, Int.natCast_zero])
      simp -implicitDefEqProofs only [go_sem, seval]
      refine loop_l (α := Nat) (catF bss) (fun k => bss.length - k) (fun k => k ≤ bss.length) 0 (by simp -implicitDefEqProofs only [go_sem, seval, catE_length]; rfl) (by omega) ?_
      intro k hk R hR
      simp -implicitDefEqProofs only [go_sem, seval, catF]
      refine wcond_mk (fun h => ?_) (fun h => ?_)
      · have hk' : k < bss.length := by have := of_decide_eq_true h; omega
        have hs := catL_step hk'
        have hb := catL_le bss (k + 1)
        simp -implicitDefEqProofs only [go_sem, seval, catE_get hk', catE_length]
        refine ⟨⟨okEs_bT _, Nat.le_refl _, by unfold room; omega⟩, hR (k + 1) _ ?_ (by omega) (by omega)⟩
        simp -implicitDefEqProofs only [go_sem, seval, wrap_i64_id (show -9223372036854775808 ≤ (k : Int) + 1 by omega) (by omega), Int.natCast_add]
        rw [← hs, catF_row bss hk']
        rfl
      · have hk' : ¬ k < bss.length := by have := of_decide_eq_false h; omega
        obtain rfl : k = bss.length := by omega
        simp -implicitDefEqProofs only [go_sem, seval, List.take_length]
        refine ends_mk [0] ?_ ?_
        · simp -implicitDefEqProofs only [go_sem, seval]
          exact List.take_of_length_le (by rw [bT_length]; exact Nat.le_refl _)
        · simp -implicitDefEqProofs only [go_sem, seval]
theorem bT_cons (b : BitVec 8) (bs : List (BitVec 8)) : bT (b :: bs) = [.i .u8 b.toNat] :: bT bs := rfl
theorem s_ref01_SameBytes (xs ys : List (BitVec 8)) (hx : xs.length ≤ 1000000) (hy : ys.length ≤ 1000000) : Spec Try.prog 42 [.sl (bT xs), .sl (bT ys)] [] (.t (.b (xs == ys)) true) := by
  refine spec_k (hold mixed) b_ref01_SameBytes [(.b (xs == ys), true)] ?_
  by_cases hl : xs.length = ys.length
  · simp -implicitDefEqProofs only [go_sem, seval, hl, bne_self_eq_false]
    refine loop_l (α := Nat) (fun k => ⟨tmL [(0, .t (.sl (bT xs)) false), (1, .t (.sl (bT ys)) false), (5, .t (.i .i64 k) true)], []⟩) (fun k => xs.length - k) (fun k => k ≤ xs.length ∧ xs.take k = ys.take k) 0 (by simp -implicitDefEqProofs only [go_sem, seval] <;> rfl) ⟨by omega, rfl⟩ ?_
    rintro k ⟨hk, he⟩ R hR
    simp -implicitDefEqProofs only [go_sem, seval]
    refine wcond_mk (fun h => ?_) (fun h => ?_)
    · have hk' : k < xs.length := by have := of_decide_eq_true h; omega
      have hk2 : k < ys.length := by omega
      have hlt : (((k : Nat) : Int) < ((ys.length : Nat) : Int)) = True := eq_true (by omega)
      simp -implicitDefEqProofs only [go_sem, seval, bT_get hk', bT_get hk2, hlt]
      refine wcond_mk (fun h => ?_) (fun h => ?_)
      · have hne : xs[k] ≠ ys[k] := fun e => by
          have h : ((((xs[k].toNat : Nat) : Int) != ((ys[k].toNat : Nat) : Int))) = true := h
          rw [e, bne_self_eq_false] at h
          exact Bool.false_ne_true h
        have h2 : (xs == ys) = false := by
          rw [beq_eq_false_iff_ne]
          intro e
          subst e
          exact hne rfl
        simp -implicitDefEqProofs only [go_sem, seval, h2]
      · have heq : xs[k] = ys[k] := by
          have h : ((((xs[k].toNat : Nat) : Int) != ((ys[k].toNat : Nat) : Int))) = false := h
          rw [bne_eq_false_iff_eq] at h
          exact BitVec.eq_of_toNat_eq (by omega)
        simp -implicitDefEqProofs only [go_sem, seval]
        refine hR (k + 1) _ ?_ ⟨by omega, ?_⟩ (by omega)
        · simp -implicitDefEqProofs only [go_sem, seval, wrap_i64_id (show -9223372036854775808 ≤ (k : Int) + 1 by omega) (by omega), Int.natCast_add]
          try rfl
        · rw [← List.take_append_getElem hk', ← List.take_append_getElem hk2, he, heq]
    · have hk' : ¬ k < xs.length := by have := of_decide_eq_false h; omega
      obtain rfl : k = xs.length := by omega
      have h2 : (xs == ys) = true := by
        rw [List.take_length] at he
        rw [beq_iff_eq, he, hl, List.take_length]
      simp -implicitDefEqProofs only [go_sem, seval, h2]
  · have h1 : ((((xs.length : Nat) : Int) != ((ys.length : Nat) : Int))) = true := by rw [bne_iff_ne]; omega
    have h2 : (xs == ys) = false := by rw [beq_eq_false_iff_ne]; intro e; exact hl (by rw [e])
    simp -implicitDefEqProofs only [go_sem, seval, h1, h2]
theorem bT_takeN (n : Nat) (bs : List (BitVec 8)) : List.take n (bT bs) = bT (bs.take n) := by simp [bT, List.map_take]
theorem bT_dropN (n : Nat) (bs : List (BitVec 8)) : List.drop n (bT bs) = bT (bs.drop n) := by simp [bT, List.map_drop]
theorem bT_take_self (bs : List (BitVec 8)) : List.take bs.length (bT bs) = bT bs := List.take_of_length_le (by rw [bT_length]; exact Nat.le_refl _)
theorem okEs_bT' (bs : List (BitVec 8)) : okEs 1 (bT bs) = True := eq_true (okEs_bT bs)
theorem bT_rest (bs : List (BitVec 8)) (k : Nat) (hk : k ≤ bs.length) : List.take ((bs.length : Int) - (k : Int)).toNat (List.drop k (bT bs)) = bT (bs.drop k) := by
  rw [bT_dropN, List.take_of_length_le]
  rw [bT_length, List.length_drop]
  omega
end Go.Proofs.Ytlfpafdkegnkoaa.Pm
set_option linter.all false
set_option maxRecDepth 100000
namespace Go.Proofs.Ytlfpafdkegnkoaa.Pm
open Go Go.RowKit
theorem s_crc_row (r : BitVec 32) : Spec Try.prog 89 [.i .u32 r.toNat] [] (.t (.i .u32 (rowL r).toNat) true) := by
  refine spec_k (hold mixed) b_crc_row [(.i .u32 (rowL r).toNat, true)] ?_
  simp -implicitDefEqProofs only [go_sem, reduceIte, Nat.reduceAdd, Nat.reduceSub, Nat.reduceMul, Nat.reduceLT, Nat.reduceLeDiff, Nat.reduceEqDiff, Nat.reduceBEq, Int.reduceLE, Int.reduceLT, Int.reduceToNat, Int.reduceMul, Int.reduceAdd, Int.reduceSub, Int.reduceNeg, Int.reduceEq, reduceCtorEq, Nat.reduceMod]
  refine loop_l (α := Nat × BitVec 32) (fun p => ⟨tmL [(0, .t (.i .u32 p.2.toNat) true), (3, .t (.i .i64 p.1) true)], []⟩) (fun p => 8 - p.1) (fun p => p.1 ≤ 8 ∧ itn rowS (8 - p.1) p.2 = rowL r) (0, r) (by simp -implicitDefEqProofs only [go_sem, reduceIte, Nat.reduceAdd, Nat.reduceSub, Nat.reduceMul, Nat.reduceLT, Nat.reduceLeDiff, Nat.reduceEqDiff, Nat.reduceBEq, Int.reduceLE, Int.reduceLT, Int.reduceToNat, Int.reduceMul, Int.reduceAdd, Int.reduceSub, Int.reduceNeg, Int.reduceEq, reduceCtorEq, Nat.reduceMod] <;> rfl) ⟨by omega, rfl⟩ ?_
  rintro ⟨k, y⟩ ⟨hk, hy⟩ R hR
  simp only at hk hy
  simp -implicitDefEqProofs only [go_sem, reduceIte, Nat.reduceAdd, Nat.reduceSub, Nat.reduceMul, Nat.reduceLT, Nat.reduceLeDiff, Nat.reduceEqDiff, Nat.reduceBEq, Int.reduceLE, Int.reduceLT, Int.reduceToNat, Int.reduceMul, Int.reduceAdd, Int.reduceSub, Int.reduceNeg, Int.reduceEq, reduceCtorEq, Nat.reduceMod]
  refine wcond_mk (fun h => ?_) (fun h => ?_)
  · have hk' : k < 8 := by have := of_decide_eq_true h; omega
    simp -implicitDefEqProofs only [go_sem, reduceIte, Nat.reduceAdd, Nat.reduceSub, Nat.reduceMul, Nat.reduceLT, Nat.reduceLeDiff, Nat.reduceEqDiff, Nat.reduceBEq, Int.reduceLE, Int.reduceLT, Int.reduceToNat, Int.reduceMul, Int.reduceAdd, Int.reduceSub, Int.reduceNeg, Int.reduceEq, reduceCtorEq, Nat.reduceMod]
    refine hR (k + 1, rowS y) _ ?_ ⟨by simp only; omega, ?_⟩ (by simp only; omega)
    · simp -implicitDefEqProofs only [go_sem, reduceIte, Nat.reduceAdd, Nat.reduceSub, Nat.reduceMul, Nat.reduceLT, Nat.reduceLeDiff, Nat.reduceEqDiff, Nat.reduceBEq, Int.reduceLE, Int.reduceLT, Int.reduceToNat, Int.reduceMul, Int.reduceAdd, Int.reduceSub, Int.reduceNeg, Int.reduceEq, reduceCtorEq, Nat.reduceMod, wrap_i64_id (show -9223372036854775808 ≤ (k : Int) + 1 by omega) (by omega), Int.natCast_add]
      try rfl
    · simp only
      rw [← hy, show 8 - k = (8 - (k + 1)) + 1 by omega]
      rfl
  · have hk' : ¬ k < 8 := by have := of_decide_eq_false h; omega
    obtain rfl : k = 8 := by omega
    simp -implicitDefEqProofs only [go_sem, reduceIte, Nat.reduceAdd, Nat.reduceSub, Nat.reduceMul, Nat.reduceLT, Nat.reduceLeDiff, Nat.reduceEqDiff, Nat.reduceBEq, Int.reduceLE, Int.reduceLT, Int.reduceToNat, Int.reduceMul, Int.reduceAdd, Int.reduceSub, Int.reduceNeg, Int.reduceEq, reduceCtorEq, Nat.reduceMod]
    rw [← hy]
    rfl
end Go.Proofs.Ytlfpafdkegnkoaa.Pm
set_option linter.all false
set_option maxRecDepth 100000
namespace Go.Proofs.Ytlfpafdkegnkoaa.Pm
open Go Go.RowKit
def tabN (k : Nat) : List T := (List.range 256).map fun j => .i .u32 ((if j < k then rowL (BitVec.ofNat 32 j) else 0#32).toNat)
def tabC (k : Nat) : List AV := (tabN k).map (AV.t · true)
theorem tabN_length (k : Nat) : (tabN k).length = 256 := by simp [tabN]
theorem tabC_length (k : Nat) : (tabC k).length = 256 := by simp [tabC, tabN_length]
theorem tabN_get (k : Nat) {j : Nat} (h : j < 256) : (tabN k)[j]? = some (.i .u32 ((if j < k then rowL (BitVec.ofNat 32 j) else 0#32).toNat)) := by simp [tabN, h]
theorem tabC_zero : List.replicate 256 (AV.t (.i .u32 0) true) = tabC 0 := by
  apply List.ext_getElem?
  intro j
  simp only [tabC, List.getElem?_map, List.getElem?_replicate]
  by_cases h : j < 256
  · rw [tabN_get 0 h]; simp [h]
  · rw [if_neg h, List.getElem?_eq_none (by rw [tabN_length]; omega)]; rfl
theorem tabC_set {k : Nat} (h : k < 256) : setAt (tabC k) k [.t (.i .u32 (rowL (BitVec.ofNat 32 k)).toNat) true] = tabC (k + 1) := by
  rw [setAt_one _ (by rw [tabC_length]; exact h)]
  apply List.ext_getElem?
  intro j
  by_cases hj : j < 256
  · by_cases e : k = j
    · subst e
      rw [List.getElem?_set_self (by rw [tabC_length]; exact h)]
      simp only [tabC, List.getElem?_map, tabN_get _ hj, Option.map_some]
      simp
    · rw [List.getElem?_set_ne e]
      simp only [tabC, List.getElem?_map, tabN_get _ hj, Option.map_some]
      by_cases e2 : j < k
      · rw [if_pos e2, if_pos (by omega)]
      · rw [if_neg e2, if_neg (by omega)]
  · rw [List.getElem?_eq_none (by simp [tabC_length]; omega), List.getElem?_eq_none (by rw [tabC_length]; omega)]
theorem embs_ts (h : H) : ∀ (xs : List T), embs h (xs.map (AV.t · true)) = some (xs, true, [])
  | [] => rfl
  | x :: xs => by simp [embs, emb, embs_ts h xs]
theorem tabC_embs (h : H) (k : Nat) : embs h (tabC k) = some (tabN k, true, []) := embs_ts h _
theorem tabC_one (k : Nat) : (∀ v ∈ tabC k, v.one) = True := by
  apply eq_true
  intro v hv
  simp only [tabC, tabN, List.mem_map] at hv
  obtain ⟨_, ⟨j, _, rfl⟩, rfl⟩ := hv
  trivial
theorem tabC_take (k : Nat) : (tabC k).take 256 = tabC k := List.take_of_length_le (by rw [tabC_length]; exact Nat.le_refl _)
theorem cutB_tab (m k : Nat) (h : H) : varB m ((tabC k).map (toT1 m h)) = .var (tabC k) := by
  have e : (tabC k).map (toT1 m h) = tabC k := by
    have : ∀ (xs : List T), (xs.map (AV.t · true)).map (toT1 m h) = xs.map (AV.t · true) := fun xs => by
      rw [List.map_map]
      rfl
    exact this _
  rw [e]
  have : (tabC k).all (below m) = true := by
    rw [List.all_eq_true]
    intro v hv
    simp only [tabC, tabN, List.mem_map] at hv
    obtain ⟨_, ⟨j, _, rfl⟩, rfl⟩ := hv
    rfl
  simp only [varB, this, if_true]
theorem tab_get {n : Nat} (h : n < 256) : (tabC 256)[n]? = some (.t (.i .u32 (rowL (BitVec.ofNat 32 n)).toNat) true) := by
  simp only [tabC, List.getElem?_map, tabN_get _ h, Option.map_some, if_pos h]
theorem tab_fold (k : Nat) : List.map (fun x => AV.t x true) (tabN k) = tabC k := rfl
theorem bv8_lt (x : BitVec 8) : (((x.toNat : Nat) : Int) < ((256 : Nat) : Int)) = True := eq_true (by have := x.isLt; omega)
theorem tab_get8 (x : BitVec 8) : (tabC 256)[x.toNat]? = some (.t (.i .u32 (rowL (x.setWidth 32)).toNat) true) := by
  rw [tab_get x.isLt, BitVec.ofNat_toNat]
theorem tabC_set2 {k : Nat} (h : k < 256) : List.take k (tabC k) ++ [.t (.i .u32 (rowL (BitVec.ofNat 32 k)).toNat) true] ++ List.drop (k + 1) (tabC k) = tabC (k + 1) := tabC_set h
theorem tab_drop (k : Nat) : List.drop 256 (tabC k) = [] := List.drop_of_length_le (by rw [tabC_length]; exact Nat.le_refl _)
theorem s_crc_table : Spec Try.prog 88 [] [] (.t (.agg (tabN 256)) true) := by
  refine spec_k (hold mixed) b_crc_table [(.agg (tabN 256), true)] ?_
  simp -implicitDefEqProofs only [go_sem, reduceIte, Nat.reduceAdd, Nat.reduceSub, Nat.reduceMul, Nat.reduceLT, Nat.reduceLeDiff, Nat.reduceEqDiff, Nat.reduceBEq, Int.reduceLE, Int.reduceLT, Int.reduceToNat, Int.reduceMul, Int.reduceAdd, Int.reduceSub, Int.reduceNeg, Int.reduceEq, reduceCtorEq, Nat.reduceMod, tabC_zero]
  refine loop_l (α := Nat) (fun k => ⟨tmL [(0, .ptr 0 0), (2, .t (.i .i64 k) true)], [.var (tabC k)]⟩) (fun k => 256 - k) (fun k => k ≤ 256) 0 (by simp -implicitDefEqProofs only [go_sem, reduceIte, Nat.reduceAdd, Nat.reduceSub, Nat.reduceMul, Nat.reduceLT, Nat.reduceLeDiff, Nat.reduceEqDiff, Nat.reduceBEq, Int.reduceLE, Int.reduceLT, Int.reduceToNat, Int.reduceMul, Int.reduceAdd, Int.reduceSub, Int.reduceNeg, Int.reduceEq, reduceCtorEq, Nat.reduceMod, cutB_tab] <;> rfl) (by omega) ?_
  rintro k hk R hR
  simp -implicitDefEqProofs only [go_sem, reduceIte, Nat.reduceAdd, Nat.reduceSub, Nat.reduceMul, Nat.reduceLT, Nat.reduceLeDiff, Nat.reduceEqDiff, Nat.reduceBEq, Int.reduceLE, Int.reduceLT, Int.reduceToNat, Int.reduceMul, Int.reduceAdd, Int.reduceSub, Int.reduceNeg, Int.reduceEq, reduceCtorEq, Nat.reduceMod]
  refine wcond_mk (fun h => ?_) (fun h => ?_)
  · have hk' : k < 256 := by have := of_decide_eq_true h; omega
    simp -implicitDefEqProofs only [go_sem, reduceIte, Nat.reduceAdd, Nat.reduceSub, Nat.reduceMul, Nat.reduceLT, Nat.reduceLeDiff, Nat.reduceEqDiff, Nat.reduceBEq, Int.reduceLE, Int.reduceLT, Int.reduceToNat, Int.reduceMul, Int.reduceAdd, Int.reduceSub, Int.reduceNeg, Int.reduceEq, reduceCtorEq, Nat.reduceMod, wrap_nat32 k]
    refine call_k (s_crc_row (BitVec.ofNat 32 k)) ?_
    simp -implicitDefEqProofs only [go_sem, reduceIte, Nat.reduceAdd, Nat.reduceSub, Nat.reduceMul, Nat.reduceLT, Nat.reduceLeDiff, Nat.reduceEqDiff, Nat.reduceBEq, Int.reduceLE, Int.reduceLT, Int.reduceToNat, Int.reduceMul, Int.reduceAdd, Int.reduceSub, Int.reduceNeg, Int.reduceEq, reduceCtorEq, Nat.reduceMod, tabC_length, AV.one, T.one, Nat.mul_one, tabC_set hk', Nat.succ_le_of_lt hk']
    refine ⟨by omega, hR (k + 1) _ ?_ (by omega) (by omega)⟩
    simp -implicitDefEqProofs only [go_sem, reduceIte, Nat.reduceAdd, Nat.reduceSub, Nat.reduceMul, Nat.reduceLT, Nat.reduceLeDiff, Nat.reduceEqDiff, Nat.reduceBEq, Int.reduceLE, Int.reduceLT, Int.reduceToNat, Int.reduceMul, Int.reduceAdd, Int.reduceSub, Int.reduceNeg, Int.reduceEq, reduceCtorEq, Nat.reduceMod, wrap_i64_id (show -9223372036854775808 ≤ (k : Int) + 1 by omega) (by omega), Int.natCast_add, tabC_set2 hk', cutB_tab]
    rfl
  · have hk' : ¬ k < 256 := by have := of_decide_eq_false h; omega
    obtain rfl : k = 256 := by omega
    simp -implicitDefEqProofs only [go_sem, reduceIte, Nat.reduceAdd, Nat.reduceSub, Nat.reduceMul, Nat.reduceLT, Nat.reduceLeDiff, Nat.reduceEqDiff, Nat.reduceBEq, Int.reduceLE, Int.reduceLT, Int.reduceToNat, Int.reduceMul, Int.reduceAdd, Int.reduceSub, Int.reduceNeg, Int.reduceEq, reduceCtorEq, Nat.reduceMod, tabC_length, tabC_one, tabC_take, tab_drop, tabC_embs]
theorem s_crc_run (r : BitVec 32) (bs : List (BitVec 8)) (hl : bs.length ≤ 21000) : Spec Try.prog 87 [.i .u32 r.toNat, .sl [[.sl (bT bs)]]] [] (.t (.i .u32 (runL r bs).toNat) true) := by
  refine spec_k (hold mixed) b_crc_run [(.i .u32 (runL r bs).toNat, true)] ?_
  simp -implicitDefEqProofs only [go_sem, reduceIte, Nat.reduceAdd, Nat.reduceSub, Nat.reduceMul, Nat.reduceLT, Nat.reduceLeDiff, Nat.reduceEqDiff, Nat.reduceBEq, Int.reduceLE, Int.reduceLT, Int.reduceToNat, Int.reduceMul, Int.reduceAdd, Int.reduceSub, Int.reduceNeg, Int.reduceEq, reduceCtorEq, Nat.reduceMod]
  refine call_k s_crc_table ?_
  simp -implicitDefEqProofs only [go_sem, reduceIte, Nat.reduceAdd, Nat.reduceSub, Nat.reduceMul, Nat.reduceLT, Nat.reduceLeDiff, Nat.reduceEqDiff, Nat.reduceBEq, Int.reduceLE, Int.reduceLT, Int.reduceToNat, Int.reduceMul, Int.reduceAdd, Int.reduceSub, Int.reduceNeg, Int.reduceEq, reduceCtorEq, Nat.reduceMod, tab_fold, tabC_zero, tabC_length, tabC_one, tab_drop]
  refine loop_l (α := Nat × BitVec 32) (fun p => ⟨tmL [(0, .t (.i .u32 p.2.toNat) true), (5, .ptr 0 0), (11, .t (.sl [[.sl (bT bs)]]) false), (12, .t (.i .i64 1) true), (13, .t (.i .i64 p.1) true)], [.var (tabC 256)]⟩) (fun p => 1 - p.1)
    (fun p => (p.1 = 0 ∧ p.2 = r) ∨ (p.1 = 1 ∧ p.2 = runL r bs)) (0, r) (by simp -implicitDefEqProofs only [go_sem, reduceIte, Nat.reduceAdd, Nat.reduceSub, Nat.reduceMul, Nat.reduceLT, Nat.reduceLeDiff, Nat.reduceEqDiff, Nat.reduceBEq, Int.reduceLE, Int.reduceLT, Int.reduceToNat, Int.reduceMul, Int.reduceAdd, Int.reduceSub, Int.reduceNeg, Int.reduceEq, reduceCtorEq, Nat.reduceMod, cutB_tab] <;> rfl) (.inl ⟨rfl, rfl⟩) ?_
  rintro ⟨k, y⟩ hG R hR
  simp only at hG
  rcases hG with ⟨rfl, rfl⟩ | ⟨rfl, rfl⟩
  · simp -implicitDefEqProofs only [go_sem, reduceIte, Nat.reduceAdd, Nat.reduceSub, Nat.reduceMul, Nat.reduceLT, Nat.reduceLeDiff, Nat.reduceEqDiff, Nat.reduceBEq, Int.reduceLE, Int.reduceLT, Int.reduceToNat, Int.reduceMul, Int.reduceAdd, Int.reduceSub, Int.reduceNeg, Int.reduceEq, reduceCtorEq, Nat.reduceMod, Int.ofNat_zero, Int.cast_ofNat_Int, Int.natCast_zero, Int.zero_lt_one]
    refine loop_l (α := Nat × BitVec 32) (fun p => ⟨tmL [(0, .t (.i .u32 p.2.toNat) true), (5, .ptr 0 0), (11, .t (.sl [[.sl (bT bs)]]) false), (12, .t (.i .i64 1) true), (13, .t (.i .i64 0) true), (17, .t (.sl (bT bs)) false), (18, .t (.i .i64 bs.length) true), (19, .t (.i .i64 p.1) true)], [.var (tabC 256)]⟩) (fun p => bs.length - p.1)
      (fun p => p.1 ≤ bs.length ∧ runL p.2 (bs.drop p.1) = runL y bs) (0, y) (by simp -implicitDefEqProofs only [go_sem, reduceIte, Nat.reduceAdd, Nat.reduceSub, Nat.reduceMul, Nat.reduceLT, Nat.reduceLeDiff, Nat.reduceEqDiff, Nat.reduceBEq, Int.reduceLE, Int.reduceLT, Int.reduceToNat, Int.reduceMul, Int.reduceAdd, Int.reduceSub, Int.reduceNeg, Int.reduceEq, reduceCtorEq, Nat.reduceMod, cutB_tab] <;> rfl) ⟨by omega, rfl⟩ ?_
    rintro ⟨k, z⟩ ⟨hk, hz⟩ R' hR'
    simp only at hk hz
    simp -implicitDefEqProofs only [go_sem, reduceIte, Nat.reduceAdd, Nat.reduceSub, Nat.reduceMul, Nat.reduceLT, Nat.reduceLeDiff, Nat.reduceEqDiff, Nat.reduceBEq, Int.reduceLE, Int.reduceLT, Int.reduceToNat, Int.reduceMul, Int.reduceAdd, Int.reduceSub, Int.reduceNeg, Int.reduceEq, reduceCtorEq, Nat.reduceMod]
    refine wcond_mk (fun h => ?_) (fun h => ?_)
    · have hk' : k < bs.length := by have := of_decide_eq_true h; omega
      simp -implicitDefEqProofs only [go_sem, reduceIte, Nat.reduceAdd, Nat.reduceSub, Nat.reduceMul, Nat.reduceLT, Nat.reduceLeDiff, Nat.reduceEqDiff, Nat.reduceBEq, Int.reduceLE, Int.reduceLT, Int.reduceToNat, Int.reduceMul, Int.reduceAdd, Int.reduceSub, Int.reduceNeg, Int.reduceEq, reduceCtorEq, Nat.reduceMod, bT_get hk', tabC_length, bv8_lt, tab_get8, Nat.mul_one]
      refine hR' (k + 1, byteL z bs[k]) _ ?_ ⟨by simp only; omega, ?_⟩ (by simp only; omega)
      · simp -implicitDefEqProofs only [go_sem, reduceIte, Nat.reduceAdd, Nat.reduceSub, Nat.reduceMul, Nat.reduceLT, Nat.reduceLeDiff, Nat.reduceEqDiff, Nat.reduceBEq, Int.reduceLE, Int.reduceLT, Int.reduceToNat, Int.reduceMul, Int.reduceAdd, Int.reduceSub, Int.reduceNeg, Int.reduceEq, reduceCtorEq, Nat.reduceMod, wrap_i64_id (show -9223372036854775808 ≤ (k : Int) + 1 by omega) (by omega), Int.natCast_add, cutB_tab]
        rfl
      · simp only
        rw [← hz, List.drop_eq_getElem_cons hk']
        rfl
    · have hk' : ¬ k < bs.length := by have := of_decide_eq_false h; omega
      obtain rfl : k = bs.length := by omega
      simp -implicitDefEqProofs only [go_sem, reduceIte, Nat.reduceAdd, Nat.reduceSub, Nat.reduceMul, Nat.reduceLT, Nat.reduceLeDiff, Nat.reduceEqDiff, Nat.reduceBEq, Int.reduceLE, Int.reduceLT, Int.reduceToNat, Int.reduceMul, Int.reduceAdd, Int.reduceSub, Int.reduceNeg, Int.reduceEq, reduceCtorEq, Nat.reduceMod]
      refine hR (1, z) _ ?_ (.inr ⟨rfl, ?_⟩) (by simp only; omega)
      · simp -implicitDefEqProofs only [go_sem, reduceIte, Nat.reduceAdd, Nat.reduceSub, Nat.reduceMul, Nat.reduceLT, Nat.reduceLeDiff, Nat.reduceEqDiff, Nat.reduceBEq, Int.reduceLE, Int.reduceLT, Int.reduceToNat, Int.reduceMul, Int.reduceAdd, Int.reduceSub, Int.reduceNeg, Int.reduceEq, reduceCtorEq, Nat.reduceMod, cutB_tab]
        rfl
      · rw [← hz, List.drop_length]
        rfl
  · simp -implicitDefEqProofs only [go_sem, reduceIte, Nat.reduceAdd, Nat.reduceSub, Nat.reduceMul, Nat.reduceLT, Nat.reduceLeDiff, Nat.reduceEqDiff, Nat.reduceBEq, Int.reduceLE, Int.reduceLT, Int.reduceToNat, Int.reduceMul, Int.reduceAdd, Int.reduceSub, Int.reduceNeg, Int.reduceEq, reduceCtorEq, Nat.reduceMod, Int.cast_ofNat_Int, Int.lt_irrefl]
end Go.Proofs.Ytlfpafdkegnkoaa.Pm
set_option linter.all false
set_option maxRecDepth 100000
namespace Go.Proofs.Ytlfpafdkegnkoaa.Pm
open Go Go.RowKit
def updT (c : BitVec 32) (bs : List (BitVec 8)) : List (T × Bool) := if bs.length ≤ 20000 then [(.i .u32 (updV c bs).toNat, true), (.i .i64 0, true)] else [(.i .u32 0, true), (.i .i64 4, true)]
theorem not32a (c : BitVec 32) : T.i .u32 ((BitVec.ofInt 32 IntKind.u32.max ^^^ c).toNat : Int) = T.i .u32 ((~~~c).toNat : Int) := by rw [not32']
theorem s_crc_Update (c : BitVec 32) (bs : List (BitVec 8)) : Spec Try.prog 74 [.i .u32 c.toNat, .sl (bT bs)] [] (resV ((updT c bs).map AV.ofT)) := by
  refine spec_k (hold mixed) b_crc_Update (updT c bs) ?_
  simp -implicitDefEqProofs only [go_sem, seval]
  refine wcond_mk (fun h => ?_) (fun h => ?_)
  · have hk : ¬ bs.length ≤ 20000 := by have := of_decide_eq_true h; omega
    simp -implicitDefEqProofs only [go_sem, seval, updT, if_neg hk]
  · have hk : bs.length ≤ 20000 := by have := of_decide_eq_false h; omega
    simp -implicitDefEqProofs only [go_sem, seval]
    refine call_k (s_crc_run (~~~c) bs (by omega)) ?_ (by simp -implicitDefEqProofs only [go_sem, seval]; exact not32a c)
    simp -implicitDefEqProofs only [go_sem, seval, updT, if_pos hk, updV]
    show T.i .u32 ((BitVec.ofInt 32 IntKind.u32.max ^^^ runL (~~~c) bs).toNat : Int) = _
    rw [not32']
theorem s_crc_Update' (c : BitVec 32) (bs : List (BitVec 8)) (hl : bs.length ≤ 20000) : Spec Try.prog 74 [.i .u32 c.toNat, .sl (bT bs)] [] (.tup [.t (.i .u32 (updV c bs).toNat) true, .t (.i .i64 0) true]) := by
  have := s_crc_Update c bs
  rw [updT, if_pos hl] at this
  exact this
theorem s_crc_Sum (bs : List (BitVec 8)) : Spec Try.prog 36 [.sl (bT bs)] [] (resV ((updT 0#32 bs).map AV.ofT)) := by
  refine spec_k (hold mixed) b_crc_Sum (updT 0#32 bs) ?_
  simp -implicitDefEqProofs only [go_sem, seval]
  refine call_k (s_crc_Update 0#32 bs) ?_ (by simp -implicitDefEqProofs only [go_sem, seval] <;> rfl) (fun h => (Bool.false_ne_true h).elim)
  by_cases hk : bs.length ≤ 20000
  · simp -implicitDefEqProofs only [go_sem, seval, updT, if_pos hk]
  · simp -implicitDefEqProofs only [go_sem, seval, updT, if_neg hk]
theorem s_crc_Sum' (bs : List (BitVec 8)) (hl : bs.length ≤ 20000) : Spec Try.prog 36 [.sl (bT bs)] [] (.tup [.t (.i .u32 (updV 0#32 bs).toNat) true, .t (.i .i64 0) true]) := by
  have := s_crc_Sum bs
  rw [updT, if_pos hl] at this
  exact this
end Go.Proofs.Ytlfpafdkegnkoaa.Pm
set_option linter.all false
set_option maxRecDepth 100000
namespace Go.Proofs.Ytlfpafdkegnkoaa.Pm
open Go Go.RowKit Go.ChangeShapes Go.WideShapes Go.ChangeAt
theorem own : ownKnob Try.prog.godebug = none := by kernel_rfl
theorem laid : laidOutB Try.prog = true := by kernel_rfl
end Go.Proofs.Ytlfpafdkegnkoaa.Pm
set_option linter.all false
set_option maxRecDepth 100000
namespace Go.Proofs.Ytlfpafdkegnkoaa.Pm
open Go Go.RowKit
section
variable {d t e sz nb : Nat} {z xs : List T} {x : T}
theorem und {i : TI} (h : X.ti t = some i) : ∃ k, Try.prog.underlying t = some k ∧ dOK k i.d = true := ((tiOf_ok Try.prog).ok t i h).und
theorem und_sl (h : X.ti t = some ⟨.slice e, sz, nb, z⟩) : Try.prog.underlying t = some (.slice e) := by
  obtain ⟨k, h1, h2⟩ := und h
  cases k <;> simp only [dOK, Bool.false_eq_true, beq_iff_eq] at h2
  rw [h1, h2]
theorem und_int {k : IntKind} (h : X.ti t = some ⟨.int k, sz, nb, z⟩) : Try.prog.underlying t = some (.int k) := by
  obtain ⟨k', h1, h2⟩ := und h
  cases k' <;> simp only [dOK, Bool.false_eq_true, beq_iff_eq] at h2
  rw [h1, h2]
theorem und_struct {fs : List (Nat × Nat)} (h : X.ti t = some ⟨.struct fs, sz, nb, z⟩) : ∃ gs : Array Field, Try.prog.underlying t = some (.struct gs) ∧ gs.toList.map (fun f => (f.offset, f.type)) = fs := by
  obtain ⟨k', h1, h2⟩ := und h
  cases k' <;> simp only [dOK, Bool.false_eq_true, beq_iff_eq] at h2
  exact ⟨_, h1, h2⟩
theorem fits_sl (h : X.ti t = some ⟨.slice e, sz, nb, z⟩) (hf : Fits Try.prog (d + 1) t xs) : ∃ es, xs = [.sl es] ∧ es.length ≤ room ∧ ∀ y ∈ es, Fits Try.prog d e y := by
  simp only [Fits, und_sl h] at hf
  exact hf
theorem fits_int {k : IntKind} (h : X.ti t = some ⟨.int k, sz, nb, z⟩) (hf : Fits Try.prog (d + 1) t xs) : ∃ n, xs = [.i k n] ∧ k.min ≤ n ∧ n ≤ k.max := by
  simp only [Fits, und_int h] at hf
  exact hf
theorem all2_map {α β γ : Type} {R : β → γ → Prop} (g : α → β) : ∀ {al : List α} {cl : List γ}, All2 (fun a c => R (g a) c) al cl → All2 R (al.map g) cl
  | [], [], _ => trivial
  | _ :: _, _ :: _, h => ⟨h.1, all2_map g h.2⟩
  | [], _ :: _, h => h.elim
  | _ :: _, [], h => h.elim
theorem fits_struct {fs : List (Nat × Nat)} (h : X.ti t = some ⟨.struct fs, sz, nb, z⟩) (hf : Fits Try.prog (d + 1) t xs) : ∃ ps, xs = ps.flatten ∧ All2 (fun (f : Nat × Nat) p => Fits Try.prog d f.2 p) fs ps := by
  obtain ⟨gs, h1, h2⟩ := und_struct h
  simp only [Fits, h1] at hf
  obtain ⟨ps, e1, e2⟩ := hf
  refine ⟨ps, e1, ?_⟩
  rw [← h2]
  exact all2_map (R := fun (f : Nat × Nat) p => Fits Try.prog d f.2 p) (fun f : Field => (f.offset, f.type)) e2
theorem arg_sl (h : X.ti t = some ⟨.slice e, sz, nb, z⟩) (ha : ArgFits Try.prog d t x) : Fits Try.prog d t [x] := by
  unfold ArgFits at ha
  rw [und_sl h] at ha
  exact ha
theorem arg_int {k : IntKind} (h : X.ti t = some ⟨.int k, sz, nb, z⟩) (ha : ArgFits Try.prog d t x) : Fits Try.prog d t [x] := by
  unfold ArgFits at ha
  rw [und_int h] at ha
  exact ha
theorem fits_i64' (h : X.ti t = some ⟨.int .i64, sz, nb, z⟩) (hf : Fits Try.prog (d + 1) t xs) : ∃ n : Int, xs = [.i .i64 n] ∧ -9223372036854775808 ≤ n ∧ n ≤ 9223372036854775807 := by
  obtain ⟨n, e, h0, h1⟩ := fits_int h hf
  simp [IntKind.min, IntKind.max, IntKind.signed, IntKind.bits] at h0 h1
  exact ⟨n, e, h0, h1⟩
theorem list_form2 {α : Type} {f : α → List T} {p : α → Prop} : ∀ {es : List (List T)}, (∀ y ∈ es, ∃ a, y = f a ∧ p a) → ∃ al : List α, es = al.map f ∧ ∀ a ∈ al, p a
  | [], _ => ⟨[], rfl, by simp⟩
  | y :: es, h => by
    obtain ⟨a, rfl, ha⟩ := h y (by simp)
    obtain ⟨al, rfl, hp⟩ := list_form2 (es := es) fun y hy => h y (by simp [hy])
    exact ⟨a :: al, rfl, fun b hb => by rcases List.mem_cons.1 hb with rfl | hb; exact ha; exact hp b hb⟩
end
end Go.Proofs.Ytlfpafdkegnkoaa.Pm
