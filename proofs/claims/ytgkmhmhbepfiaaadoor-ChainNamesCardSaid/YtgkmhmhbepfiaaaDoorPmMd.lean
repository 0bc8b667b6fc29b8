/- Texts of this proof in one file: PmTy, PmKl, PmLa, PmHk, PmCf, PmCg. No law of Go's is stated here. -/
import Derived.Test.YtgkmhmhbepfiaaaDoorPmMc
import Derived.Test.YtgkmhmhbepfiaaaDoorRows
import Derived.KernelRfl
/-! PmTy -/
set_option linter.all false
set_option maxRecDepth 100000
namespace Go.Proofs.YtgkmhmhbepfiaaaDoor.Pm
open Go Go.RowKit

noncomputable abbrev X : Cx := Xof Tryd.prog
@[go_sem] theorem ti2 : X.ti 2 = some ⟨.int .i64, 1, 8, [.i .i64 0]⟩ := by kernel_rfl
@[go_sem] theorem ti3 : X.ti 3 = some ⟨.int .i64, 1, 8, [.i .i64 0]⟩ := by kernel_rfl
@[go_sem] theorem ti4 : X.ti 4 = some ⟨.bool, 1, 1, [.b false]⟩ := by kernel_rfl
@[go_sem] theorem ti5 : X.ti 5 = some ⟨.int .u8, 1, 1, [.i .u8 0]⟩ := by kernel_rfl
@[go_sem] theorem ti6 : X.ti 6 = some ⟨.int .u8, 1, 1, [.i .u8 0]⟩ := by kernel_rfl
@[go_sem] theorem ti7 : X.ti 7 = some ⟨.struct [(0, 2), (1, 3), (2, 4), (3, 6)], 4, 24, [.i .i64 0, .i .i64 0, .b false, .i .u8 0]⟩ := by kernel_rfl
@[go_sem] theorem ti8 : X.ti 8 = some ⟨.struct [(0, 2), (1, 3), (2, 4), (3, 6)], 4, 24, [.i .i64 0, .i .i64 0, .b false, .i .u8 0]⟩ := by kernel_rfl
@[go_sem] theorem ti9 : X.ti 9 = some ⟨.str, 1, 16, [.s ⟨#[]⟩]⟩ := by kernel_rfl
@[go_sem] theorem ti10 : X.ti 10 = some ⟨.str, 1, 16, [.s ⟨#[]⟩]⟩ := by kernel_rfl
@[go_sem] theorem ti11 : X.ti 11 = some ⟨.str, 1, 16, [.s ⟨#[]⟩]⟩ := by kernel_rfl
@[go_sem] theorem ti12 : X.ti 12 = some ⟨.int .u64, 1, 8, [.i .u64 0]⟩ := by kernel_rfl
@[go_sem] theorem ti13 : X.ti 13 = some ⟨.struct [(0, 9), (1, 12)], 2, 24, [.s ⟨#[]⟩, .i .u64 0]⟩ := by kernel_rfl
@[go_sem] theorem ti14 : X.ti 14 = some ⟨.struct [(0, 9), (1, 12)], 2, 24, [.s ⟨#[]⟩, .i .u64 0]⟩ := by kernel_rfl
@[go_sem] theorem ti21 : X.ti 21 = some ⟨.int .i32, 1, 4, [.i .i32 0]⟩ := by kernel_rfl
@[go_sem] theorem ti22 : X.ti 22 = some ⟨.slice 5, 1, 24, [.sl []]⟩ := by kernel_rfl
@[go_sem] theorem ti23 : X.ti 23 = some ⟨.int .u32, 1, 4, [.i .u32 0]⟩ := by kernel_rfl
@[go_sem] theorem ti24 : X.ti 24 = some ⟨.array 8 23, 8, 32, [.i .u32 0, .i .u32 0, .i .u32 0, .i .u32 0, .i .u32 0, .i .u32 0, .i .u32 0, .i .u32 0]⟩ := by kernel_rfl
@[go_sem] theorem ti25 : X.ti 25 = some ⟨.array 32 5, 32, 32, [.i .u8 0, .i .u8 0, .i .u8 0, .i .u8 0, .i .u8 0, .i .u8 0, .i .u8 0, .i .u8 0, .i .u8 0, .i .u8 0, .i .u8 0, .i .u8 0, .i .u8 0, .i .u8 0, .i .u8 0, .i .u8 0, .i .u8 0, .i .u8 0, .i .u8 0, .i .u8 0, .i .u8 0, .i .u8 0, .i .u8 0, .i .u8 0, .i .u8 0, .i .u8 0, .i .u8 0, .i .u8 0, .i .u8 0, .i .u8 0, .i .u8 0, .i .u8 0]⟩ := by kernel_rfl
@[go_sem] theorem ti26 : X.ti 26 = some ⟨.array 32 5, 32, 32, [.i .u8 0, .i .u8 0, .i .u8 0, .i .u8 0, .i .u8 0, .i .u8 0, .i .u8 0, .i .u8 0, .i .u8 0, .i .u8 0, .i .u8 0, .i .u8 0, .i .u8 0, .i .u8 0, .i .u8 0, .i .u8 0, .i .u8 0, .i .u8 0, .i .u8 0, .i .u8 0, .i .u8 0, .i .u8 0, .i .u8 0, .i .u8 0, .i .u8 0, .i .u8 0, .i .u8 0, .i .u8 0, .i .u8 0, .i .u8 0, .i .u8 0, .i .u8 0]⟩ := by kernel_rfl
@[go_sem] theorem ti27 : X.ti 27 = some ⟨.int .i64, 1, 8, [.i .i64 0]⟩ := by kernel_rfl
@[go_sem] theorem ti43 : X.ti 43 = some ⟨.struct [(0, 24), (8, 22), (9, 3)], 10, 64, [.i .u32 0, .i .u32 0, .i .u32 0, .i .u32 0, .i .u32 0, .i .u32 0, .i .u32 0, .i .u32 0, .sl [], .i .i64 0]⟩ := by kernel_rfl
@[go_sem] theorem ti44 : X.ti 44 = some ⟨.struct [(0, 24), (8, 22), (9, 3)], 10, 64, [.i .u32 0, .i .u32 0, .i .u32 0, .i .u32 0, .i .u32 0, .i .u32 0, .i .u32 0, .i .u32 0, .sl [], .i .i64 0]⟩ := by kernel_rfl
@[go_sem] theorem ti54 : X.ti 54 = some ⟨.slice 22, 1, 24, [.sl []]⟩ := by kernel_rfl
@[go_sem] theorem ti56 : X.ti 56 = some ⟨.slice 64, 1, 24, [.sl []]⟩ := by kernel_rfl
@[go_sem] theorem ti63 : X.ti 63 = some ⟨.struct [(0, 22), (1, 26)], 33, 56, [.sl [], .i .u8 0, .i .u8 0, .i .u8 0, .i .u8 0, .i .u8 0, .i .u8 0, .i .u8 0, .i .u8 0, .i .u8 0, .i .u8 0, .i .u8 0, .i .u8 0, .i .u8 0, .i .u8 0, .i .u8 0, .i .u8 0, .i .u8 0, .i .u8 0, .i .u8 0, .i .u8 0, .i .u8 0, .i .u8 0, .i .u8 0, .i .u8 0, .i .u8 0, .i .u8 0, .i .u8 0, .i .u8 0, .i .u8 0, .i .u8 0, .i .u8 0, .i .u8 0]⟩ := by kernel_rfl
@[go_sem] theorem ti64 : X.ti 64 = some ⟨.struct [(0, 22), (1, 26)], 33, 56, [.sl [], .i .u8 0, .i .u8 0, .i .u8 0, .i .u8 0, .i .u8 0, .i .u8 0, .i .u8 0, .i .u8 0, .i .u8 0, .i .u8 0, .i .u8 0, .i .u8 0, .i .u8 0, .i .u8 0, .i .u8 0, .i .u8 0, .i .u8 0, .i .u8 0, .i .u8 0, .i .u8 0, .i .u8 0, .i .u8 0, .i .u8 0, .i .u8 0, .i .u8 0, .i .u8 0, .i .u8 0, .i .u8 0, .i .u8 0, .i .u8 0, .i .u8 0, .i .u8 0]⟩ := by kernel_rfl
@[go_sem] theorem ti80 : X.ti 80 = some ⟨.slice 26, 1, 24, [.sl []]⟩ := by kernel_rfl
@[go_sem] theorem ti81 : X.ti 81 = some ⟨.struct [(0, 3), (1, 26), (33, 22), (34, 80)], 35, 88, [.i .i64 0, .i .u8 0, .i .u8 0, .i .u8 0, .i .u8 0, .i .u8 0, .i .u8 0, .i .u8 0, .i .u8 0, .i .u8 0, .i .u8 0, .i .u8 0, .i .u8 0, .i .u8 0, .i .u8 0, .i .u8 0, .i .u8 0, .i .u8 0, .i .u8 0, .i .u8 0, .i .u8 0, .i .u8 0, .i .u8 0, .i .u8 0, .i .u8 0, .i .u8 0, .i .u8 0, .i .u8 0, .i .u8 0, .i .u8 0, .i .u8 0, .i .u8 0, .i .u8 0, .sl [], .sl []]⟩ := by kernel_rfl
@[go_sem] theorem ti82 : X.ti 82 = some ⟨.struct [(0, 3), (1, 26), (33, 22), (34, 80)], 35, 88, [.i .i64 0, .i .u8 0, .i .u8 0, .i .u8 0, .i .u8 0, .i .u8 0, .i .u8 0, .i .u8 0, .i .u8 0, .i .u8 0, .i .u8 0, .i .u8 0, .i .u8 0, .i .u8 0, .i .u8 0, .i .u8 0, .i .u8 0, .i .u8 0, .i .u8 0, .i .u8 0, .i .u8 0, .i .u8 0, .i .u8 0, .i .u8 0, .i .u8 0, .i .u8 0, .i .u8 0, .i .u8 0, .i .u8 0, .i .u8 0, .i .u8 0, .i .u8 0, .i .u8 0, .sl [], .sl []]⟩ := by kernel_rfl
@[go_sem] theorem ti111 : X.ti 111 = some ⟨.slice 56, 1, 24, [.sl []]⟩ := by kernel_rfl
@[go_sem] theorem ti112 : X.ti 112 = some ⟨.int .u64, 1, 8, [.i .u64 0]⟩ := by kernel_rfl
@[go_sem] theorem ti116 : X.ti 116 = some ⟨.int .u64, 1, 8, [.i .u64 0]⟩ := by kernel_rfl
@[go_sem] theorem ti117 : X.ti 117 = some ⟨.array 64 23, 64, 256, List.replicate 64 (.i .u32 0)⟩ := by kernel_rfl
@[go_sem] theorem ti119 : X.ti 119 = some ⟨.slice 23, 1, 24, [.sl []]⟩ := by kernel_rfl
@[go_sem] theorem ti122 : X.ti 122 = some ⟨.array 68 5, 68, 68, List.replicate 68 (.i .u8 0)⟩ := by kernel_rfl
@[go_sem] theorem ti124 : X.ti 124 = some ⟨.slice 3, 1, 24, [.sl []]⟩ := by kernel_rfl
@[go_sem] theorem ti128 : X.ti 128 = some ⟨.array 0 16, 0, 0, []⟩ := by kernel_rfl
@[go_sem] theorem ti129 : X.ti 129 = some ⟨.struct [(0, 128)], 0, 0, []⟩ := by kernel_rfl
@[go_sem] theorem ti130 : X.ti 130 = some ⟨.struct [(0, 128)], 0, 0, []⟩ := by kernel_rfl
@[go_sem] theorem ti132 : X.ti 132 = some ⟨.int .u8, 1, 1, [.i .u8 0]⟩ := by kernel_rfl
@[go_sem] theorem ti133 : X.ti 133 = some ⟨.int .u8, 1, 1, [.i .u8 0]⟩ := by kernel_rfl
@[go_sem] theorem ti136 : X.ti 136 = some ⟨.int .i32, 1, 4, [.i .i32 0]⟩ := by kernel_rfl
@[go_sem] theorem ti137 : X.ti 137 = some ⟨.int .i32, 1, 4, [.i .i32 0]⟩ := by kernel_rfl
theorem mixed : Tryd.prog.follows .mixedOrders = true := by kernel_rfl
end Go.Proofs.YtgkmhmhbepfiaaaDoor.Pm

/-! PmKl -/
set_option linter.all false
set_option maxRecDepth 100000
namespace Go.Proofs.YtgkmhmhbepfiaaaDoor.Pm
open Go Go.RowKit


def c_slices_Clone : C := (.seq (.seq (.reg ([⟨some 2, .assign (.const (.slice none 0 0)), none⟩])) (.keep [0])) (.seq (.seq (.seq (.reg ([⟨some 3, .move (.tmp 0), none⟩, ⟨some 4, .binOp .eql 22 (.tmp 3) (.const (.slice none 0 0)) 22, none⟩])) (.keep [0, 4])) (.cond (.tmp 4) (.seq (.seq (.reg ([⟨some 2, .assign (.const (.slice none 0 0)), none⟩])) (.keep [2])) .ret) .skip)) (.seq (.seq (.reg ([⟨some 5, .buildSlice 22 0 #[], none⟩, ⟨some 6, .move (.tmp 0), none⟩, ⟨some 7, .call { callee := .builtin .append, args := #[(.tmp 5), (.tmp 6)], argTypes := #[22, 22] }, none⟩, ⟨some 2, .assign (.tmp 7), none⟩])) (.keep [2])) .ret)))
attribute [go_sem ↓] c_slices_Clone
def h_slices_Clone : List Hint := [⟨[], [0], []⟩, ⟨[], [0, 4], []⟩, ⟨[], [2], []⟩, ⟨[], [2], []⟩]
theorem b_slices_Clone : Body Tryd.prog 63 [] h_slices_Clone c_slices_Clone 8 [.tmp 2] := body_of Tryd.func63 (by kernel_rfl) (by kernel_rfl) (by kernel_rfl) (by kernel_rfl)
def c_slices_Concat : C := (.seq (.seq (.reg ([⟨some 2, .assign (.const (.slice none 0 0)), none⟩])) (.keep [0])) (.seq (.seq (.reg ([⟨some 3, .assign (.const (.int .i64 0)), none⟩])) (.keep [0, 3])) (.seq (.seq (.seq (.reg ([⟨some 9, .move (.tmp 0), none⟩, ⟨some 10, .call { callee := .builtin .len, args := #[(.tmp 9)], argTypes := #[54] }, none⟩, ⟨some 11, .move (.const (.int .i64 0)), none⟩])) (.keep [0, 3, 9, 10, 11])) (.block 0 (.loop [] [0, 3, 9, 10, 11] (.seq (.seq (.reg ([⟨some 12, .binOp .lss 3 (.tmp 11) (.tmp 10) 3, none⟩])) (.keep [0, 3, 9, 10, 11, 12])) (.seq (.cond (.tmp 12) .skip (.exit 0)) (.seq (.block 1 (.seq (.seq (.reg ([⟨some 13, .indexAddr 54 (.tmp 9) (.tmp 11), none⟩, ⟨some 14, .load 22 (.tmp 13), none⟩, ⟨some 5, .assign (.tmp 14), none⟩])) (.keep [0, 3, 5, 9, 10, 11])) (.seq (.seq (.reg ([⟨some 15, .move (.tmp 3), none⟩, ⟨some 16, .move (.tmp 5), none⟩, ⟨some 17, .call { callee := .builtin .len, args := #[(.tmp 16)], argTypes := #[22] }, none⟩, ⟨some 18, .binOp .add 3 (.tmp 15) (.tmp 17) 3, none⟩, ⟨some 3, .assign (.tmp 18), none⟩])) (.keep [0, 3, 9, 10, 11])) (.seq (.seq (.reg ([⟨some 19, .move (.tmp 3), none⟩, ⟨some 20, .binOp .lss 3 (.tmp 19) (.const (.int .i64 0)) 3, none⟩])) (.keep [0, 3, 9, 10, 11, 20])) (.cond (.tmp 20) (.seq (.reg ([⟨some 21, .makeInterface 9 (.const (.string ⟨#[108, 101, 110, 32, 111, 117, 116, 32, 111, 102, 32, 114, 97, 110, 103, 101]⟩)), none⟩, ⟨none, .panic (.tmp 21), none⟩])) (.keep [0, 3, 9, 10, 11])) .skip))))) (.seq (.reg ([⟨some 22, .binOp .add 3 (.tmp 11) (.const (.int .i64 1)) 3, none⟩, ⟨some 11, .move (.tmp 22), none⟩])) (.keep [0, 3, 9, 10, 11])))))))) (.seq (.seq (.reg ([⟨some 23, .move (.tmp 3), none⟩, ⟨some 24, .call { callee := .value (.func 75), args := #[(.const (.slice none 0 0)), (.tmp 23)], argTypes := #[22, 3] }, none⟩, ⟨some 6, .assign (.tmp 24), none⟩])) (.keep [0, 6])) (.seq (.seq (.seq (.reg ([⟨some 25, .move (.tmp 0), none⟩, ⟨some 26, .call { callee := .builtin .len, args := #[(.tmp 25)], argTypes := #[54] }, none⟩, ⟨some 27, .move (.const (.int .i64 0)), none⟩])) (.keep [6, 25, 26, 27])) (.block 2 (.loop [(6, 1)] [6, 25, 26, 27] (.seq (.seq (.reg ([⟨some 28, .binOp .lss 3 (.tmp 27) (.tmp 26) 3, none⟩])) (.keep [6, 25, 26, 27, 28])) (.seq (.cond (.tmp 28) .skip (.exit 2)) (.seq (.block 3 (.seq (.seq (.reg ([⟨some 29, .indexAddr 54 (.tmp 25) (.tmp 27), none⟩, ⟨some 30, .load 22 (.tmp 29), none⟩, ⟨some 8, .assign (.tmp 30), none⟩])) (.keep [6, 8, 25, 26, 27])) (.seq (.reg ([⟨some 31, .move (.tmp 6), none⟩, ⟨some 32, .move (.tmp 8), none⟩, ⟨some 33, .call { callee := .builtin .append, args := #[(.tmp 31), (.tmp 32)], argTypes := #[22, 22] }, none⟩, ⟨some 6, .assign (.tmp 33), none⟩])) (.keep [6, 25, 26, 27])))) (.seq (.reg ([⟨some 34, .binOp .add 3 (.tmp 27) (.const (.int .i64 1)) 3, none⟩, ⟨some 27, .move (.tmp 34), none⟩])) (.keep [6, 25, 26, 27])))))))) (.seq (.seq (.reg ([⟨some 35, .move (.tmp 6), none⟩, ⟨some 2, .assign (.tmp 35), none⟩])) (.keep [2])) .ret))))))
attribute [go_sem ↓] c_slices_Concat
def h_slices_Concat : List Hint := [⟨[], [0], []⟩, ⟨[], [0, 3], []⟩, ⟨[], [0, 3, 9, 10, 11], []⟩, ⟨[], [0, 3, 9, 10, 11], []⟩, ⟨[], [0, 3, 9, 10, 11, 12], []⟩, ⟨[], [0, 3, 5, 9, 10, 11], []⟩, ⟨[], [0, 3, 9, 10, 11], []⟩, ⟨[], [0, 3, 9, 10, 11, 20], []⟩, ⟨[], [0, 3, 9, 10, 11], []⟩, ⟨[], [0, 3, 9, 10, 11], []⟩, ⟨[], [0, 6], []⟩, ⟨[], [6, 25, 26, 27], []⟩, ⟨[(6, 1)], [6, 25, 26, 27], []⟩, ⟨[], [6, 25, 26, 27, 28], []⟩, ⟨[], [6, 8, 25, 26, 27], []⟩, ⟨[], [6, 25, 26, 27], []⟩, ⟨[], [6, 25, 26, 27], []⟩, ⟨[], [2], []⟩]
theorem b_slices_Concat : Body Tryd.prog 68 [] h_slices_Concat c_slices_Concat 36 [.tmp 2] := body_of Tryd.func68 (by kernel_rfl) (by kernel_rfl) (by kernel_rfl) (by kernel_rfl)
def c_slices_Grow : C := (.seq (.seq (.reg ([⟨some 4, .assign (.const (.slice none 0 0)), none⟩])) (.keep [0, 1])) (.seq (.seq (.seq (.reg ([⟨some 5, .move (.tmp 1), none⟩, ⟨some 6, .binOp .lss 3 (.tmp 5) (.const (.int .i64 0)) 3, none⟩])) (.keep [0, 1, 6])) (.cond (.tmp 6) (.seq (.reg ([⟨some 7, .makeInterface 9 (.const (.string ⟨#[99, 97, 110, 110, 111, 116, 32, 98, 101, 32, 110, 101, 103, 97, 116, 105, 118, 101]⟩)), none⟩, ⟨none, .panic (.tmp 7), none⟩])) (.keep [0, 1])) .skip)) (.seq (.seq (.seq (.reg ([⟨some 8, .move (.tmp 1), none⟩, ⟨some 9, .move (.tmp 0), none⟩, ⟨some 10, .call { callee := .builtin .cap, args := #[(.tmp 9)], argTypes := #[22] }, none⟩, ⟨some 11, .move (.tmp 0), none⟩, ⟨some 12, .call { callee := .builtin .len, args := #[(.tmp 11)], argTypes := #[22] }, none⟩, ⟨some 13, .binOp .sub 3 (.tmp 10) (.tmp 12) 3, none⟩, ⟨some 14, .binOp .sub 3 (.tmp 8) (.tmp 13) 3, none⟩, ⟨some 1, .assign (.tmp 14), none⟩])) (.keep [0, 1])) (.seq (.seq (.reg ([⟨some 15, .move (.tmp 1), none⟩, ⟨some 16, .binOp .gtr 3 (.tmp 15) (.const (.int .i64 0)) 3, none⟩])) (.keep [0, 1, 16])) (.cond (.tmp 16) (.seq (.reg ([⟨some 17, .move (.tmp 0), none⟩, ⟨some 18, .move (.tmp 0), none⟩, ⟨some 19, .call { callee := .builtin .cap, args := #[(.tmp 18)], argTypes := #[22] }, none⟩, ⟨some 20, .slice 22 (.tmp 17) none (some (.tmp 19)) none, none⟩, ⟨some 21, .move (.tmp 1), none⟩, ⟨some 22, .call { callee := .builtin .append, args := #[(.tmp 20), (.tmp 21)], argTypes := #[22, 3] }, none⟩, ⟨some 23, .move (.tmp 0), none⟩, ⟨some 24, .call { callee := .builtin .len, args := #[(.tmp 23)], argTypes := #[22] }, none⟩, ⟨some 25, .slice 22 (.tmp 22) none (some (.tmp 24)) none, none⟩, ⟨some 0, .assign (.tmp 25), none⟩])) (.keep [0])) .skip))) (.seq (.seq (.reg ([⟨some 26, .move (.tmp 0), none⟩, ⟨some 4, .assign (.tmp 26), none⟩])) (.keep [4])) .ret))))
attribute [go_sem ↓] c_slices_Grow
def h_slices_Grow : List Hint := [⟨[], [0, 1], []⟩, ⟨[], [0, 1, 6], []⟩, ⟨[], [0, 1], []⟩, ⟨[], [0, 1], []⟩, ⟨[], [0, 1, 16], []⟩, ⟨[], [0], []⟩, ⟨[], [4], []⟩]
theorem b_slices_Grow : Body Tryd.prog 75 [] h_slices_Grow c_slices_Grow 27 [.tmp 4] := body_of Tryd.func75 (by kernel_rfl) (by kernel_rfl) (by kernel_rfl) (by kernel_rfl)

end Go.Proofs.YtgkmhmhbepfiaaaDoor.Pm

/-! PmLa -/
set_option linter.all false
set_option maxRecDepth 100000
namespace Go.Proofs.YtgkmhmhbepfiaaaDoor.Pm
open Go Go.RowKit

theorem s_slices_Grow (n : Nat) (h0 : 0 < n) (hn : n ≤ 1000000) : Spec Tryd.prog 75 [.nl, .i .i64 n] [.row 0 1 [] true] (.row 0 0 0 0) := by
  refine spec_ko (hold mixed) b_slices_Grow [.row 0 1 [] true] [.row 0 0 0 0] ?_
  have h1 : ((n : Int) < 0) = False := eq_false (by omega)
  have h2 : ((n : Int) > 0) = True := eq_true (by omega)
  have h3 : IntKind.i64.wrap ((n : Int) - 0) = n := by rw [wrap_i64_id (by omega) (by omega)]; omega
  have h4 : IntKind.i64.wrap ((n : Int)) = n := by rw [wrap_i64_id (by omega) (by omega)]
  have h5 : IntKind.i64.wrap 0 = 0 := by decide
  simp -implicitDefEqProofs only [go_sem, reduceIte, Nat.reduceAdd, Nat.reduceSub, Nat.reduceMul, Nat.reduceLT, Nat.reduceLeDiff, Nat.reduceEqDiff, Nat.reduceBEq, Int.reduceLE, Int.reduceLT, Int.reduceToNat, Int.reduceMul, Int.reduceAdd, Int.reduceSub, Int.reduceNeg, Int.reduceEq, reduceCtorEq, Nat.reduceMod, h1, h2, h3, h4, h5, Int.natCast_zero]
  refine ⟨⟨by unfold room; omega, by unfold room; omega⟩, ends_mk [0] ?_ ?_⟩ <;> simp -implicitDefEqProofs only [go_sem, reduceIte, Nat.reduceAdd, Nat.reduceSub, Nat.reduceMul, Nat.reduceLT, Nat.reduceLeDiff, Nat.reduceEqDiff, Nat.reduceBEq, Int.reduceLE, Int.reduceLT, Int.reduceToNat, Int.reduceMul, Int.reduceAdd, Int.reduceSub, Int.reduceNeg, Int.reduceEq, reduceCtorEq, Nat.reduceMod]
theorem s_slices_Grow0 : Spec Tryd.prog 75 [.nl, .i .i64 0] [] .nl := by
  refine spec_ko (hold mixed) b_slices_Grow [] [.nl] ?_
  have h5 : IntKind.i64.wrap 0 = 0 := by decide
  simp -implicitDefEqProofs only [go_sem, reduceIte, Nat.reduceAdd, Nat.reduceSub, Nat.reduceMul, Nat.reduceLT, Nat.reduceLeDiff, Nat.reduceEqDiff, Nat.reduceBEq, Int.reduceLE, Int.reduceLT, Int.reduceToNat, Int.reduceMul, Int.reduceAdd, Int.reduceSub, Int.reduceNeg, Int.reduceEq, reduceCtorEq, Nat.reduceMod, h5, Int.natCast_zero, gt_iff_lt, Int.lt_irrefl]
  refine ends_mk [] ?_ ?_ <;> simp -implicitDefEqProofs only [go_sem, reduceIte, Nat.reduceAdd, Nat.reduceSub, Nat.reduceMul, Nat.reduceLT, Nat.reduceLeDiff, Nat.reduceEqDiff, Nat.reduceBEq, Int.reduceLE, Int.reduceLT, Int.reduceToNat, Int.reduceMul, Int.reduceAdd, Int.reduceSub, Int.reduceNeg, Int.reduceEq, reduceCtorEq, Nat.reduceMod]
/-- Lists of lists of bytes. -/
def catE (bss : List (List (BitVec 8))) : List (List T) := bss.map fun bs => [.sl (bT bs)]
def catL (bss : List (List (BitVec 8))) : Nat := bss.flatten.length
theorem catE_length (bss : List (List (BitVec 8))) : (catE bss).length = bss.length := by simp [catE]
theorem catE_get {bss : List (List (BitVec 8))} {k : Nat} (h : k < bss.length) : (catE bss)[k]? = some [.sl (bT bss[k])] := by simp [catE, h]
theorem flat_step {bss : List (List (BitVec 8))} {k : Nat} (h : k < bss.length) : (bss.take (k + 1)).flatten = (bss.take k).flatten ++ bss[k] := by
  rw [← List.take_append_getElem h, List.flatten_append]; simp
theorem catL_step {bss : List (List (BitVec 8))} {k : Nat} (h : k < bss.length) : catL (bss.take (k + 1)) = catL (bss.take k) + bss[k].length := by
  unfold catL; rw [flat_step h, List.length_append]
theorem catL_le (bss : List (List (BitVec 8))) (k : Nat) : catL (bss.take k) ≤ catL bss := by
  unfold catL
  conv => rhs; rw [← List.take_append_drop k bss]
  rw [List.flatten_append, List.length_append]
  omega
def catF (bss : List (List (BitVec 8))) (k : Nat) : S := ⟨tmL [(6, .row 0 k 0 (catL (bss.take k))), (25, .t (.sl (catE bss)) false), (26, .t (.i .i64 bss.length) true), (27, .t (.i .i64 k) true)], [.row k 1 (bT (bss.take k).flatten) true]⟩
theorem okEs_bT (bs : List (BitVec 8)) : okEs 1 (bT bs) := by
  intro e he
  simp only [bT, List.mem_map] at he
  obtain ⟨_, _, rfl⟩ := he
  simp [T.one]
theorem bT_append (xs ys : List (BitVec 8)) : bT (xs ++ ys) = bT xs ++ bT ys := by simp [bT]
theorem catF_row (bss : List (List (BitVec 8))) {k : Nat} (hk : k < bss.length) : List.take (catL (bss.take k)) (bT (bss.take k).flatten) ++ bT bss[k] = bT (bss.take (k + 1)).flatten := by
  rw [flat_step hk, bT_append, List.take_of_length_le (by rw [bT_length]; exact Nat.le_refl _)]
theorem s_slices_Concat (bss : List (List (BitVec 8))) (hn : bss.length ≤ 1000) (hl : catL bss ≤ 1000000) : Spec Tryd.prog 68 [.sl (catE bss)] [.row 0 1 (bT bss.flatten) true] (.row 0 0 0 (catL bss)) := by
  refine spec_ko (hold mixed) b_slices_Concat [.row 0 1 (bT bss.flatten) true] [.row 0 0 0 (catL bss)] ?_
  simp -implicitDefEqProofs only [go_sem, reduceIte, Nat.reduceAdd, Nat.reduceSub, Nat.reduceMul, Nat.reduceLT, Nat.reduceLeDiff, Nat.reduceEqDiff, Nat.reduceBEq, Int.reduceLE, Int.reduceLT, Int.reduceToNat, Int.reduceMul, Int.reduceAdd, Int.reduceSub, Int.reduceNeg, Int.reduceEq, reduceCtorEq, Nat.reduceMod, catE_length]
  refine loop_l (α := Nat) (fun k => ⟨tmL [(0, .t (.sl (catE bss)) false), (3, .t (.i .i64 (catL (bss.take k))) true), (9, .t (.sl (catE bss)) false), (10, .t (.i .i64 bss.length) true), (11, .t (.i .i64 k) true)], []⟩) (fun k => bss.length - k) (fun k => k ≤ bss.length) 0 (by simp -implicitDefEqProofs only [go_sem, reduceIte, Nat.reduceAdd, Nat.reduceSub, Nat.reduceMul, Nat.reduceLT, Nat.reduceLeDiff, Nat.reduceEqDiff, Nat.reduceBEq, Int.reduceLE, Int.reduceLT, Int.reduceToNat, Int.reduceMul, Int.reduceAdd, Int.reduceSub, Int.reduceNeg, Int.reduceEq, reduceCtorEq, Nat.reduceMod]; rfl) (by omega) ?_
  intro k hk R hR
  simp -implicitDefEqProofs only [go_sem, reduceIte, Nat.reduceAdd, Nat.reduceSub, Nat.reduceMul, Nat.reduceLT, Nat.reduceLeDiff, Nat.reduceEqDiff, Nat.reduceBEq, Int.reduceLE, Int.reduceLT, Int.reduceToNat, Int.reduceMul, Int.reduceAdd, Int.reduceSub, Int.reduceNeg, Int.reduceEq, reduceCtorEq, Nat.reduceMod]
  refine wcond_mk (fun h => ?_) (fun h => ?_)
  · have hk' : k < bss.length := by have := of_decide_eq_true h; omega
    have hs := catL_step hk'
    have hb := catL_le bss (k + 1)
    have hw : IntKind.i64.wrap (((catL (bss.take k) : Nat) : Int) + ((bss[k].length : Nat) : Int)) = ((catL (bss.take (k + 1)) : Nat) : Int) := by rw [wrap_i64_id (by omega) (by omega)]; omega
    have hneg : (((catL (bss.take (k + 1)) : Nat) : Int) < 0) = False := eq_false (by omega)
    simp -implicitDefEqProofs only [go_sem, reduceIte, Nat.reduceAdd, Nat.reduceSub, Nat.reduceMul, Nat.reduceLT, Nat.reduceLeDiff, Nat.reduceEqDiff, Nat.reduceBEq, Int.reduceLE, Int.reduceLT, Int.reduceToNat, Int.reduceMul, Int.reduceAdd, Int.reduceSub, Int.reduceNeg, Int.reduceEq, reduceCtorEq, Nat.reduceMod, catE_get hk', catE_length, hw, hneg]
    refine hR (k + 1) _ ?_ (by omega) (by omega)
    simp -implicitDefEqProofs only [go_sem, reduceIte, Nat.reduceAdd, Nat.reduceSub, Nat.reduceMul, Nat.reduceLT, Nat.reduceLeDiff, Nat.reduceEqDiff, Nat.reduceBEq, Int.reduceLE, Int.reduceLT, Int.reduceToNat, Int.reduceMul, Int.reduceAdd, Int.reduceSub, Int.reduceNeg, Int.reduceEq, reduceCtorEq, Nat.reduceMod, wrap_i64_id (show -9223372036854775808 ≤ (k : Int) + 1 by omega) (by omega), Int.natCast_add]
    rfl
  · have hk' : ¬ k < bss.length := by have := of_decide_eq_false h; omega
    obtain rfl : k = bss.length := by omega
    simp -implicitDefEqProofs only [go_sem, reduceIte, Nat.reduceAdd, Nat.reduceSub, Nat.reduceMul, Nat.reduceLT, Nat.reduceLeDiff, Nat.reduceEqDiff, Nat.reduceBEq, Int.reduceLE, Int.reduceLT, Int.reduceToNat, Int.reduceMul, Int.reduceAdd, Int.reduceSub, Int.reduceNeg, Int.reduceEq, reduceCtorEq, Nat.reduceMod, List.take_length]
    by_cases h0 : 0 < catL bss
    · refine call_k (s_slices_Grow (catL bss) h0 hl) ?_
      simp -implicitDefEqProofs only [go_sem, reduceIte, Nat.reduceAdd, Nat.reduceSub, Nat.reduceMul, Nat.reduceLT, Nat.reduceLeDiff, Nat.reduceEqDiff, Nat.reduceBEq, Int.reduceLE, Int.reduceLT, Int.reduceToNat, Int.reduceMul, Int.reduceAdd, Int.reduceSub, Int.reduceNeg, Int.reduceEq, reduceCtorEq, Nat.reduceMod]
      refine loop_l (α := Nat) (catF bss) (fun k => bss.length - k) (fun k => k ≤ bss.length) 0 (by simp -implicitDefEqProofs only [go_sem, reduceIte, Nat.reduceAdd, Nat.reduceSub, Nat.reduceMul, Nat.reduceLT, Nat.reduceLeDiff, Nat.reduceEqDiff, Nat.reduceBEq, Int.reduceLE, Int.reduceLT, Int.reduceToNat, Int.reduceMul, Int.reduceAdd, Int.reduceSub, Int.reduceNeg, Int.reduceEq, reduceCtorEq, Nat.reduceMod, catE_length]; rfl) (by omega) ?_
      intro k hk R hR
      simp -implicitDefEqProofs only [go_sem, reduceIte, Nat.reduceAdd, Nat.reduceSub, Nat.reduceMul, Nat.reduceLT, Nat.reduceLeDiff, Nat.reduceEqDiff, Nat.reduceBEq, Int.reduceLE, Int.reduceLT, Int.reduceToNat, Int.reduceMul, Int.reduceAdd, Int.reduceSub, Int.reduceNeg, Int.reduceEq, reduceCtorEq, Nat.reduceMod, catF]
      refine wcond_mk (fun h => ?_) (fun h => ?_)
      · have hk' : k < bss.length := by have := of_decide_eq_true h; omega
        have hs := catL_step hk'
        have hb := catL_le bss (k + 1)
        simp -implicitDefEqProofs only [go_sem, reduceIte, Nat.reduceAdd, Nat.reduceSub, Nat.reduceMul, Nat.reduceLT, Nat.reduceLeDiff, Nat.reduceEqDiff, Nat.reduceBEq, Int.reduceLE, Int.reduceLT, Int.reduceToNat, Int.reduceMul, Int.reduceAdd, Int.reduceSub, Int.reduceNeg, Int.reduceEq, reduceCtorEq, Nat.reduceMod, catE_get hk', catE_length]
        refine ⟨⟨okEs_bT _, Nat.le_refl _, by unfold room; omega⟩, hR (k + 1) _ ?_ (by omega) (by omega)⟩
        simp -implicitDefEqProofs only [go_sem, reduceIte, Nat.reduceAdd, Nat.reduceSub, Nat.reduceMul, Nat.reduceLT, Nat.reduceLeDiff, Nat.reduceEqDiff, Nat.reduceBEq, Int.reduceLE, Int.reduceLT, Int.reduceToNat, Int.reduceMul, Int.reduceAdd, Int.reduceSub, Int.reduceNeg, Int.reduceEq, reduceCtorEq, Nat.reduceMod, wrap_i64_id (show -9223372036854775808 ≤ (k : Int) + 1 by omega) (by omega), Int.natCast_add]
        rw [← hs, catF_row bss hk']
        rfl
      · have hk' : ¬ k < bss.length := by have := of_decide_eq_false h; omega
        obtain rfl : k = bss.length := by omega
        simp -implicitDefEqProofs only [go_sem, reduceIte, Nat.reduceAdd, Nat.reduceSub, Nat.reduceMul, Nat.reduceLT, Nat.reduceLeDiff, Nat.reduceEqDiff, Nat.reduceBEq, Int.reduceLE, Int.reduceLT, Int.reduceToNat, Int.reduceMul, Int.reduceAdd, Int.reduceSub, Int.reduceNeg, Int.reduceEq, reduceCtorEq, Nat.reduceMod, List.take_length]
        refine ends_mk [0] ?_ ?_
        · simp -implicitDefEqProofs only [go_sem, reduceIte, Nat.reduceAdd, Nat.reduceSub, Nat.reduceMul, Nat.reduceLT, Nat.reduceLeDiff, Nat.reduceEqDiff, Nat.reduceBEq, Int.reduceLE, Int.reduceLT, Int.reduceToNat, Int.reduceMul, Int.reduceAdd, Int.reduceSub, Int.reduceNeg, Int.reduceEq, reduceCtorEq, Nat.reduceMod]
          exact List.take_of_length_le (by rw [bT_length]; exact Nat.le_refl _)
        · simp -implicitDefEqProofs only [go_sem, reduceIte, Nat.reduceAdd, Nat.reduceSub, Nat.reduceMul, Nat.reduceLT, Nat.reduceLeDiff, Nat.reduceEqDiff, Nat.reduceBEq, Int.reduceLE, Int.reduceLT, Int.reduceToNat, Int.reduceMul, Int.reduceAdd, Int.reduceSub, Int.reduceNeg, Int.reduceEq, reduceCtorEq, Nat.reduceMod]
    · have hz : catL bss = 0 := by omega
      refine call_k s_slices_Grow0 ?_ (by simp -implicitDefEqProofs only [go_sem, reduceIte, Nat.reduceAdd, Nat.reduceSub, Nat.reduceMul, Nat.reduceLT, Nat.reduceLeDiff, Nat.reduceEqDiff, Nat.reduceBEq, Int.reduceLE, Int.reduceLT, Int.reduceToNat, Int.reduceMul, Int.reduceAdd, Int.reduceSub, Int.reduceNeg, Int.reduceEq, reduceCtorEq, Nat.reduceMod, hz, Int.natCast_zero])
      simp -implicitDefEqProofs only [go_sem, reduceIte, Nat.reduceAdd, Nat.reduceSub, Nat.reduceMul, Nat.reduceLT, Nat.reduceLeDiff, Nat.reduceEqDiff, Nat.reduceBEq, Int.reduceLE, Int.reduceLT, Int.reduceToNat, Int.reduceMul, Int.reduceAdd, Int.reduceSub, Int.reduceNeg, Int.reduceEq, reduceCtorEq, Nat.reduceMod]
      refine loop_l (α := Nat) (catF bss) (fun k => bss.length - k) (fun k => k ≤ bss.length) 0 (by simp -implicitDefEqProofs only [go_sem, reduceIte, Nat.reduceAdd, Nat.reduceSub, Nat.reduceMul, Nat.reduceLT, Nat.reduceLeDiff, Nat.reduceEqDiff, Nat.reduceBEq, Int.reduceLE, Int.reduceLT, Int.reduceToNat, Int.reduceMul, Int.reduceAdd, Int.reduceSub, Int.reduceNeg, Int.reduceEq, reduceCtorEq, Nat.reduceMod, catE_length]; rfl) (by omega) ?_
      intro k hk R hR
      simp -implicitDefEqProofs only [go_sem, reduceIte, Nat.reduceAdd, Nat.reduceSub, Nat.reduceMul, Nat.reduceLT, Nat.reduceLeDiff, Nat.reduceEqDiff, Nat.reduceBEq, Int.reduceLE, Int.reduceLT, Int.reduceToNat, Int.reduceMul, Int.reduceAdd, Int.reduceSub, Int.reduceNeg, Int.reduceEq, reduceCtorEq, Nat.reduceMod, catF]
      refine wcond_mk (fun h => ?_) (fun h => ?_)
      · have hk' : k < bss.length := by have := of_decide_eq_true h; omega
        have hs := catL_step hk'
        have hb := catL_le bss (k + 1)
        simp -implicitDefEqProofs only [go_sem, reduceIte, Nat.reduceAdd, Nat.reduceSub, Nat.reduceMul, Nat.reduceLT, Nat.reduceLeDiff, Nat.reduceEqDiff, Nat.reduceBEq, Int.reduceLE, Int.reduceLT, Int.reduceToNat, Int.reduceMul, Int.reduceAdd, Int.reduceSub, Int.reduceNeg, Int.reduceEq, reduceCtorEq, Nat.reduceMod, catE_get hk', catE_length]
        refine ⟨⟨okEs_bT _, Nat.le_refl _, by unfold room; omega⟩, hR (k + 1) _ ?_ (by omega) (by omega)⟩
        simp -implicitDefEqProofs only [go_sem, reduceIte, Nat.reduceAdd, Nat.reduceSub, Nat.reduceMul, Nat.reduceLT, Nat.reduceLeDiff, Nat.reduceEqDiff, Nat.reduceBEq, Int.reduceLE, Int.reduceLT, Int.reduceToNat, Int.reduceMul, Int.reduceAdd, Int.reduceSub, Int.reduceNeg, Int.reduceEq, reduceCtorEq, Nat.reduceMod, wrap_i64_id (show -9223372036854775808 ≤ (k : Int) + 1 by omega) (by omega), Int.natCast_add]
        rw [← hs, catF_row bss hk']
        rfl
      · have hk' : ¬ k < bss.length := by have := of_decide_eq_false h; omega
        obtain rfl : k = bss.length := by omega
        simp -implicitDefEqProofs only [go_sem, reduceIte, Nat.reduceAdd, Nat.reduceSub, Nat.reduceMul, Nat.reduceLT, Nat.reduceLeDiff, Nat.reduceEqDiff, Nat.reduceBEq, Int.reduceLE, Int.reduceLT, Int.reduceToNat, Int.reduceMul, Int.reduceAdd, Int.reduceSub, Int.reduceNeg, Int.reduceEq, reduceCtorEq, Nat.reduceMod, List.take_length]
        refine ends_mk [0] ?_ ?_
        · simp -implicitDefEqProofs only [go_sem, reduceIte, Nat.reduceAdd, Nat.reduceSub, Nat.reduceMul, Nat.reduceLT, Nat.reduceLeDiff, Nat.reduceEqDiff, Nat.reduceBEq, Int.reduceLE, Int.reduceLT, Int.reduceToNat, Int.reduceMul, Int.reduceAdd, Int.reduceSub, Int.reduceNeg, Int.reduceEq, reduceCtorEq, Nat.reduceMod]
          exact List.take_of_length_le (by rw [bT_length]; exact Nat.le_refl _)
        · simp -implicitDefEqProofs only [go_sem, reduceIte, Nat.reduceAdd, Nat.reduceSub, Nat.reduceMul, Nat.reduceLT, Nat.reduceLeDiff, Nat.reduceEqDiff, Nat.reduceBEq, Int.reduceLE, Int.reduceLT, Int.reduceToNat, Int.reduceMul, Int.reduceAdd, Int.reduceSub, Int.reduceNeg, Int.reduceEq, reduceCtorEq, Nat.reduceMod]

theorem bT_cons (b : BitVec 8) (bs : List (BitVec 8)) : bT (b :: bs) = [.i .u8 b.toNat] :: bT bs := rfl
end Go.Proofs.YtgkmhmhbepfiaaaDoor.Pm

/-! PmHk -/
set_option linter.all false
set_option maxRecDepth 100000
namespace Go.Proofs.YtgkmhmhbepfiaaaDoor.Pm
open Go Go.RowKit


def c_sha_Sum : C := (.seq (.seq (.reg ([⟨some 2, .alloc 26, none⟩, ⟨some 3, .assign (.const (.int .i64 0)), none⟩])) (.keep [0, 2])) (.seq (.seq (.seq (.reg ([⟨some 4, .move (.tmp 0), none⟩, ⟨some 5, .call { callee := .builtin .len, args := #[(.tmp 4)], argTypes := #[22] }, none⟩, ⟨some 6, .binOp .gtr 3 (.tmp 5) (.const (.int .i64 1000000)) 3, none⟩])) (.keep [0, 2, 6])) (.cond (.tmp 6) (.seq (.seq (.reg ([⟨some 7, .build 26 #[], none⟩, ⟨none, .store 26 (.tmp 2) (.tmp 7), none⟩, ⟨some 3, .assign (.const (.int .i64 4)), none⟩])) (.keep [2, 3])) .ret) .skip)) (.seq (.seq (.reg ([⟨some 8, .call { callee := .value (.func 22), args := #[], argTypes := #[] }, none⟩, ⟨some 9, .move (.tmp 0), none⟩, ⟨some 10, .call { callee := .value (.func 55), args := #[(.tmp 8), (.tmp 9)], argTypes := #[44, 22] }, none⟩, ⟨some 11, .call { callee := .value (.func 54), args := #[(.tmp 10)], argTypes := #[44] }, none⟩, ⟨none, .store 26 (.tmp 2) (.tmp 11), none⟩, ⟨some 3, .assign (.const (.int .i64 0)), none⟩])) (.keep [2, 3])) .ret)))
attribute [go_sem ↓] c_sha_Sum
def h_sha_Sum : List Hint := [⟨[], [0, 2], []⟩, ⟨[], [0, 2, 6], []⟩, ⟨[], [2, 3], []⟩, ⟨[], [2, 3], []⟩]
theorem b_sha_Sum : Body Tryd.prog 14 [] h_sha_Sum c_sha_Sum 12 [.cell 2 26, .tmp 3] := body_of Tryd.func14 (by kernel_rfl) (by kernel_rfl) (by kernel_rfl) (by kernel_rfl)
def c_sha_Start : C := (.seq (.seq (.reg ([⟨some 0, .alloc 44, none⟩])) (.keep [0])) (.seq (.seq (.reg ([⟨some 1, .load 24 (.global 0), none⟩, ⟨some 2, .build 44 #[(0, (.tmp 1))], none⟩, ⟨none, .store 44 (.tmp 0) (.tmp 2), none⟩])) (.keep [0])) .ret))
attribute [go_sem ↓] c_sha_Start
def h_sha_Start : List Hint := [⟨[], [0], []⟩, ⟨[], [0], []⟩]
theorem b_sha_Start : Body Tryd.prog 22 [] h_sha_Start c_sha_Start 3 [.cell 0 44] := body_of Tryd.func22 (by kernel_rfl) (by kernel_rfl) (by kernel_rfl) (by kernel_rfl)
def c_sha_finish : C := (.seq (.seq (.reg ([⟨some 1, .box 44 (.tmp 0), none⟩, ⟨some 2, .alloc 26, none⟩])) (.keep [1, 2])) (.seq (.seq (.draw ([⟨⟨some 6, .load 44 (.tmp 1), none⟩, []⟩, ⟨⟨some 7, .fieldAddr 44 (.tmp 1) 2, none⟩, [0]⟩, ⟨⟨some 8, .load 3 (.tmp 7), none⟩, [0]⟩, ⟨⟨some 9, .call { callee := .value (.func 57), args := #[(.tmp 8)], argTypes := #[3] }, none⟩, [0]⟩, ⟨⟨some 10, .call { callee := .value (.func 55), args := #[(.tmp 6), (.tmp 9)], argTypes := #[44, 22] }, none⟩, []⟩, ⟨⟨none, .store 44 (.tmp 1) (.tmp 10), none⟩, []⟩])) (.keep [1, 2])) (.seq (.seq (.seq (.reg ([⟨some 11, .fieldAddr 44 (.tmp 1) 0, none⟩, ⟨some 12, .load 24 (.tmp 11), none⟩, ⟨some 13, .move (.const (.int .i64 0)), none⟩])) (.keep [2, 12, 13])) (.block 0 (.loop [] [2, 12, 13] (.seq (.seq (.reg ([⟨some 14, .binOp .lss 3 (.tmp 13) (.const (.int .i64 8)) 3, none⟩])) (.keep [2, 12, 13, 14])) (.seq (.cond (.tmp 14) .skip (.exit 0)) (.seq (.block 1 (.seq (.seq (.reg ([⟨some 15, .move (.tmp 13), none⟩, ⟨some 16, .index 24 (.tmp 12) (.tmp 13), none⟩, ⟨some 3, .assign (.tmp 15), none⟩, ⟨some 4, .assign (.tmp 16), none⟩])) (.keep [2, 3, 4, 12, 13])) (.seq (.seq (.reg ([⟨some 17, .move (.const (.int .i64 0)), none⟩])) (.keep [2, 3, 4, 12, 13, 17])) (.block 2 (.loop [] [2, 3, 4, 12, 13, 17] (.seq (.seq (.reg ([⟨some 18, .binOp .lss 3 (.tmp 17) (.const (.int .i64 4)) 3, none⟩])) (.keep [2, 3, 4, 12, 13, 17, 18])) (.seq (.cond (.tmp 18) .skip (.exit 2)) (.seq (.block 3 (.seq (.seq (.reg ([⟨some 19, .move (.tmp 17), none⟩, ⟨some 5, .assign (.tmp 19), none⟩])) (.keep [2, 3, 4, 5, 12, 13, 17])) (.seq (.reg ([⟨some 20, .move (.tmp 3), none⟩, ⟨some 21, .binOp .mul 3 (.const (.int .i64 4)) (.tmp 20) 3, none⟩, ⟨some 22, .move (.tmp 5), none⟩, ⟨some 23, .binOp .add 3 (.tmp 21) (.tmp 22) 3, none⟩, ⟨some 24, .move (.tmp 4), none⟩, ⟨some 25, .move (.tmp 5), none⟩, ⟨some 26, .binOp .mul 3 (.const (.int .i64 8)) (.tmp 25) 3, none⟩, ⟨some 27, .binOp .sub 3 (.const (.int .i64 24)) (.tmp 26) 3, none⟩, ⟨some 28, .binOp .shr 23 (.tmp 24) (.tmp 27) 3, none⟩, ⟨some 29, .convert 23 5 (.tmp 28), none⟩, ⟨some 30, .indexAddr 26 (.tmp 2) (.tmp 23), none⟩, ⟨none, .store 5 (.tmp 30) (.tmp 29), none⟩])) (.keep [2, 3, 4, 12, 13, 17])))) (.seq (.reg ([⟨some 31, .binOp .add 3 (.tmp 17) (.const (.int .i64 1)) 3, none⟩, ⟨some 17, .move (.tmp 31), none⟩])) (.keep [2, 3, 4, 12, 13, 17])))))))))) (.seq (.reg ([⟨some 32, .binOp .add 3 (.tmp 13) (.const (.int .i64 1)) 3, none⟩, ⟨some 13, .move (.tmp 32), none⟩])) (.keep [2, 12, 13])))))))) (.seq (.seq (.reg ([⟨some 33, .load 26 (.tmp 2), none⟩, ⟨none, .store 26 (.tmp 2) (.tmp 33), none⟩])) (.keep [2])) .ret))))
attribute [go_sem ↓] c_sha_finish
def h_sha_finish : List Hint := [⟨[], [1, 2], []⟩, ⟨[], [1, 2], []⟩, ⟨[], [2, 12, 13], []⟩, ⟨[], [2, 12, 13], []⟩, ⟨[], [2, 12, 13, 14], []⟩, ⟨[], [2, 3, 4, 12, 13], []⟩, ⟨[], [2, 3, 4, 12, 13, 17], []⟩, ⟨[], [2, 3, 4, 12, 13, 17], []⟩, ⟨[], [2, 3, 4, 12, 13, 17, 18], []⟩, ⟨[], [2, 3, 4, 5, 12, 13, 17], []⟩, ⟨[], [2, 3, 4, 12, 13, 17], []⟩, ⟨[], [2, 3, 4, 12, 13, 17], []⟩, ⟨[], [2, 12, 13], []⟩, ⟨[], [2], []⟩]
theorem b_sha_finish : Body Tryd.prog 54 [] h_sha_finish c_sha_finish 34 [.cell 2 26] := body_of Tryd.func54 (by kernel_rfl) (by kernel_rfl) (by kernel_rfl) (by kernel_rfl)
def c_sha_write : C := (.seq (.seq (.reg ([⟨some 2, .box 44 (.tmp 0), none⟩, ⟨some 4, .alloc 44, none⟩])) (.keep [1, 2, 4])) (.seq (.seq (.reg ([⟨some 6, .fieldAddr 44 (.tmp 2) 2, none⟩, ⟨some 7, .load 3 (.tmp 6), none⟩, ⟨some 8, .move (.tmp 1), none⟩, ⟨some 9, .call { callee := .builtin .len, args := #[(.tmp 8)], argTypes := #[22] }, none⟩, ⟨some 10, .binOp .add 3 (.tmp 7) (.tmp 9) 3, none⟩, ⟨some 11, .fieldAddr 44 (.tmp 2) 2, none⟩, ⟨none, .store 3 (.tmp 11) (.tmp 10), none⟩])) (.keep [1, 2, 4])) (.seq (.seq (.reg ([⟨some 12, .fieldAddr 44 (.tmp 2) 1, none⟩, ⟨some 13, .load 22 (.tmp 12), none⟩, ⟨some 14, .move (.tmp 1), none⟩, ⟨some 15, .buildSlice 54 2 #[(0, (.tmp 13)), (1, (.tmp 14))], none⟩, ⟨some 16, .call { callee := .value (.func 68), args := #[(.tmp 15)], argTypes := #[54] }, none⟩, ⟨some 5, .assign (.tmp 16), none⟩])) (.keep [2, 4, 5])) (.seq (.block 0 (.loop [(5, 0)] [2, 4, 5] (.seq (.seq (.seq (.reg ([⟨some 17, .move (.tmp 5), none⟩, ⟨some 18, .call { callee := .builtin .len, args := #[(.tmp 17)], argTypes := #[22] }, none⟩, ⟨some 19, .binOp .geq 3 (.tmp 18) (.const (.int .i64 64)) 3, none⟩])) (.keep [2, 4, 5, 19])) (.cond (.tmp 19) .skip (.exit 0))) (.seq (.block 1 (.seq (.draw ([⟨⟨some 22, .fieldAddr 44 (.tmp 2) 0, none⟩, []⟩, ⟨⟨some 23, .load 24 (.tmp 22), none⟩, []⟩, ⟨⟨some 24, .move (.tmp 5), none⟩, [0, 1]⟩, ⟨⟨some 25, .slice 22 (.tmp 24) none (some (.const (.int .i64 64))) none, none⟩, [0, 1]⟩, ⟨⟨some 26, .call { callee := .value (.func 59), args := #[(.tmp 23), (.tmp 25)], argTypes := #[24, 22] }, none⟩, []⟩, ⟨⟨some 27, .fieldAddr 44 (.tmp 2) 0, none⟩, []⟩, ⟨⟨none, .store 24 (.tmp 27) (.tmp 26), none⟩, []⟩])) (.keep [2, 4, 5]))) (.seq (.reg ([⟨some 20, .move (.tmp 5), none⟩, ⟨some 21, .slice 22 (.tmp 20) (some (.const (.int .i64 64))) none none, none⟩, ⟨some 5, .assign (.tmp 21), none⟩])) (.keep [2, 4, 5])))))) (.seq (.seq (.reg ([⟨some 28, .move (.tmp 5), none⟩, ⟨some 29, .call { callee := .value (.func 63), args := #[(.tmp 28)], argTypes := #[22] }, none⟩, ⟨some 30, .fieldAddr 44 (.tmp 2) 1, none⟩, ⟨none, .store 22 (.tmp 30) (.tmp 29), none⟩])) (.keep [2, 4])) (.seq (.seq (.reg ([⟨some 31, .load 44 (.tmp 2), none⟩, ⟨none, .store 44 (.tmp 4) (.tmp 31), none⟩])) (.keep [4])) .ret))))))
attribute [go_sem ↓] c_sha_write
def h_sha_write : List Hint := [⟨[], [1, 2, 4], []⟩, ⟨[], [1, 2, 4], []⟩, ⟨[], [2, 4, 5], []⟩, ⟨[(5, 0)], [2, 4, 5], []⟩, ⟨[], [2, 4, 5, 19], []⟩, ⟨[], [2, 4, 5], []⟩, ⟨[], [2, 4, 5], []⟩, ⟨[], [2, 4], []⟩, ⟨[], [4], []⟩]
theorem b_sha_write : Body Tryd.prog 55 [] h_sha_write c_sha_write 32 [.cell 4 44] := body_of Tryd.func55 (by kernel_rfl) (by kernel_rfl) (by kernel_rfl) (by kernel_rfl)
def c_sha_pad : C := (.seq (.seq (.reg ([⟨some 2, .assign (.const (.slice none 0 0)), none⟩])) (.keep [0])) (.seq (.seq (.reg ([⟨some 6, .move (.tmp 0), none⟩, ⟨some 7, .binOp .rem 3 (.tmp 6) (.const (.int .i64 64)) 3, none⟩, ⟨some 8, .binOp .sub 3 (.const (.int .i64 119)) (.tmp 7) 3, none⟩, ⟨some 9, .binOp .rem 3 (.tmp 8) (.const (.int .i64 64)) 3, none⟩, ⟨some 3, .assign (.tmp 9), none⟩])) (.keep [0, 3])) (.seq (.seq (.reg ([⟨some 10, .buildSlice 22 1 #[(0, (.const (.int .u8 128)))], none⟩, ⟨some 11, .move (.tmp 3), none⟩, ⟨some 12, .call { callee := .builtin .append, args := #[(.tmp 10), (.tmp 11)], argTypes := #[22, 3] }, none⟩, ⟨some 4, .assign (.tmp 12), none⟩])) (.keep [0, 4])) (.seq (.seq (.seq (.reg ([⟨some 13, .move (.const (.int .i64 0)), none⟩])) (.keep [0, 4, 13])) (.block 0 (.loop [(4, 1)] [0, 4, 13] (.seq (.seq (.reg ([⟨some 14, .binOp .lss 3 (.tmp 13) (.const (.int .i64 8)) 3, none⟩])) (.keep [0, 4, 13, 14])) (.seq (.cond (.tmp 14) .skip (.exit 0)) (.seq (.block 1 (.seq (.seq (.reg ([⟨some 15, .move (.tmp 13), none⟩, ⟨some 5, .assign (.tmp 15), none⟩])) (.keep [0, 4, 5, 13])) (.seq (.reg ([⟨some 16, .move (.tmp 4), none⟩, ⟨some 17, .move (.tmp 0), none⟩, ⟨some 18, .convert 3 116 (.tmp 17), none⟩, ⟨some 19, .binOp .shl 116 (.tmp 18) (.const (.int .u64 3)) 112, none⟩, ⟨some 20, .move (.tmp 5), none⟩, ⟨some 21, .binOp .mul 3 (.const (.int .i64 8)) (.tmp 20) 3, none⟩, ⟨some 22, .binOp .sub 3 (.const (.int .i64 56)) (.tmp 21) 3, none⟩, ⟨some 23, .binOp .shr 116 (.tmp 19) (.tmp 22) 3, none⟩, ⟨some 24, .convert 116 5 (.tmp 23), none⟩, ⟨some 25, .buildSlice 22 1 #[(0, (.tmp 24))], none⟩, ⟨some 26, .call { callee := .builtin .append, args := #[(.tmp 16), (.tmp 25)], argTypes := #[22, 22] }, none⟩, ⟨some 4, .assign (.tmp 26), none⟩])) (.keep [0, 4, 13])))) (.seq (.reg ([⟨some 27, .binOp .add 3 (.tmp 13) (.const (.int .i64 1)) 3, none⟩, ⟨some 13, .move (.tmp 27), none⟩])) (.keep [0, 4, 13])))))))) (.seq (.seq (.reg ([⟨some 28, .move (.tmp 4), none⟩, ⟨some 2, .assign (.tmp 28), none⟩])) (.keep [2])) .ret)))))
attribute [go_sem ↓] c_sha_pad
def h_sha_pad : List Hint := [⟨[], [0], []⟩, ⟨[], [0, 3], []⟩, ⟨[], [0, 4], []⟩, ⟨[], [0, 4, 13], []⟩, ⟨[(4, 1)], [0, 4, 13], []⟩, ⟨[], [0, 4, 13, 14], []⟩, ⟨[], [0, 4, 5, 13], []⟩, ⟨[], [0, 4, 13], []⟩, ⟨[], [0, 4, 13], []⟩, ⟨[], [2], []⟩]
theorem b_sha_pad : Body Tryd.prog 57 [] h_sha_pad c_sha_pad 29 [.tmp 2] := body_of Tryd.func57 (by kernel_rfl) (by kernel_rfl) (by kernel_rfl) (by kernel_rfl)
def c_sha_take_0 : C := (.seq (.reg ([⟨some 34, .move (.tmp 6), none⟩, ⟨some 35, .move (.tmp 6), none⟩, ⟨some 36, .indexAddr 117 (.tmp 5) (.tmp 35), none⟩, ⟨some 37, .load 23 (.tmp 36), none⟩, ⟨some 38, .binOp .shl 23 (.tmp 37) (.const (.int .u64 8)) 112, none⟩, ⟨some 39, .move (.tmp 8), none⟩, ⟨some 40, .convert 5 23 (.tmp 39), none⟩, ⟨some 41, .binOp .or 23 (.tmp 38) (.tmp 40) 23, none⟩, ⟨some 42, .indexAddr 117 (.tmp 5) (.tmp 34), none⟩, ⟨none, .store 23 (.tmp 42) (.tmp 41), none⟩])) (.keep [1, 2, 4, 5, 6, 19, 28, 29, 30]))
@[go_sem ↓] def uc_sha_take_0 := @unC _ _ c_sha_take_0.eq_1
def c_sha_take_1 : C := (.seq (.reg ([⟨some 43, .binOp .add 3 (.tmp 30) (.const (.int .i64 1)) 3, none⟩, ⟨some 30, .move (.tmp 43), none⟩])) (.keep [1, 2, 4, 5, 6, 19, 28, 29, 30]))
@[go_sem ↓] def uc_sha_take_1 := @unC _ _ c_sha_take_1.eq_1
def c_sha_take_2 : C := (.seq (.block 3 (.seq (.seq (.reg ([⟨some 32, .indexAddr 22 (.tmp 28) (.tmp 30), none⟩, ⟨some 33, .load 5 (.tmp 32), none⟩, ⟨some 8, .assign (.tmp 33), none⟩])) (.keep [1, 2, 4, 5, 6, 8, 19, 28, 29, 30])) c_sha_take_0)) c_sha_take_1)
@[go_sem ↓] def uc_sha_take_2 := @unC _ _ c_sha_take_2.eq_1
def c_sha_take_3 : C := (.seq (.cond (.tmp 31) .skip (.exit 2)) c_sha_take_2)
@[go_sem ↓] def uc_sha_take_3 := @unC _ _ c_sha_take_3.eq_1
def c_sha_take_4 : C := (.seq (.seq (.reg ([⟨some 31, .binOp .lss 3 (.tmp 30) (.tmp 29) 3, none⟩])) (.keep [1, 2, 4, 5, 6, 19, 28, 29, 30, 31])) c_sha_take_3)
@[go_sem ↓] def uc_sha_take_4 := @unC _ _ c_sha_take_4.eq_1
def c_sha_take_5 : C := (.block 2 (.loop [] [1, 2, 4, 5, 6, 19, 28, 29, 30] c_sha_take_4))
@[go_sem ↓] def uc_sha_take_5 := @unC _ _ c_sha_take_5.eq_1
def c_sha_take_6 : C := (.seq (.seq (.reg ([⟨some 22, .move (.tmp 1), none⟩, ⟨some 23, .move (.tmp 6), none⟩, ⟨some 24, .binOp .mul 3 (.const (.int .i64 4)) (.tmp 23) 3, none⟩, ⟨some 25, .move (.tmp 6), none⟩, ⟨some 26, .binOp .mul 3 (.const (.int .i64 4)) (.tmp 25) 3, none⟩, ⟨some 27, .binOp .add 3 (.tmp 26) (.const (.int .i64 4)) 3, none⟩, ⟨some 28, .slice 22 (.tmp 22) (some (.tmp 24)) (some (.tmp 27)) none, none⟩, ⟨some 29, .call { callee := .builtin .len, args := #[(.tmp 28)], argTypes := #[22] }, none⟩, ⟨some 30, .move (.const (.int .i64 0)), none⟩])) (.keep [1, 2, 4, 5, 6, 19, 28, 29, 30])) c_sha_take_5)
@[go_sem ↓] def uc_sha_take_6 := @unC _ _ c_sha_take_6.eq_1
def c_sha_take_7 : C := (.seq (.reg ([⟨some 44, .binOp .add 3 (.tmp 19) (.const (.int .i64 1)) 3, none⟩, ⟨some 19, .move (.tmp 44), none⟩])) (.keep [1, 2, 4, 5, 19]))
@[go_sem ↓] def uc_sha_take_7 := @unC _ _ c_sha_take_7.eq_1
def c_sha_take_8 : C := (.seq (.block 1 (.seq (.seq (.reg ([⟨some 21, .move (.tmp 19), none⟩, ⟨some 6, .assign (.tmp 21), none⟩])) (.keep [1, 2, 4, 5, 6, 19])) c_sha_take_6)) c_sha_take_7)
@[go_sem ↓] def uc_sha_take_8 := @unC _ _ c_sha_take_8.eq_1
def c_sha_take_9 : C := (.seq (.cond (.tmp 20) .skip (.exit 0)) c_sha_take_8)
@[go_sem ↓] def uc_sha_take_9 := @unC _ _ c_sha_take_9.eq_1
def c_sha_take_10 : C := (.seq (.seq (.reg ([⟨some 20, .binOp .lss 3 (.tmp 19) (.const (.int .i64 16)) 3, none⟩])) (.keep [1, 2, 4, 5, 19, 20])) c_sha_take_9)
@[go_sem ↓] def uc_sha_take_10 := @unC _ _ c_sha_take_10.eq_1
def c_sha_take_11 : C := (.block 0 (.loop [] [1, 2, 4, 5, 19] c_sha_take_10))
@[go_sem ↓] def uc_sha_take_11 := @unC _ _ c_sha_take_11.eq_1
def c_sha_take_12 : C := (.cond (.tmp 46) .skip (.exit 4))
@[go_sem ↓] def uc_sha_take_12 := @unC _ _ c_sha_take_12.eq_1
def d_sha_take_13 : List D := [⟨⟨some 77, .move (.tmp 11), none⟩, [0, 1, 2, 3, 4, 5, 6, 7, 8, 9, 10, 11, 12, 13, 14, 15, 16, 17, 18, 19]⟩, ⟨⟨some 78, .binOp .shr 23 (.tmp 77) (.const (.int .u64 10)) 112, none⟩, [0, 1, 2, 3, 4, 5, 6, 7, 8, 9, 10, 11, 12, 13, 14, 15, 16, 17, 18, 19]⟩, ⟨⟨some 79, .binOp .xor 23 (.tmp 76) (.tmp 78) 23, none⟩, [0, 1, 2, 3, 4, 5, 6, 7, 8, 9, 13, 14, 15, 16]⟩, ⟨⟨some 80, .binOp .add 23 (.tmp 73) (.tmp 79) 23, none⟩, [0]⟩, ⟨⟨some 81, .indexAddr 117 (.tmp 5) (.tmp 57), none⟩, []⟩, ⟨⟨none, .store 23 (.tmp 81) (.tmp 80), none⟩, []⟩]
@[go_sem ↓] def ud_sha_take_13 := @unD _ _ d_sha_take_13.eq_1
def d_sha_take_14 : List D := ⟨⟨some 70, .move (.tmp 10), none⟩, [0, 1, 2, 3, 4, 5, 6, 7, 8, 9, 10, 11, 12]⟩ :: ⟨⟨some 71, .binOp .shr 23 (.tmp 70) (.const (.int .u64 3)) 112, none⟩, [0, 1, 2, 3, 4, 5, 6, 7, 8, 9, 10, 11, 12]⟩ :: ⟨⟨some 72, .binOp .xor 23 (.tmp 69) (.tmp 71) 23, none⟩, [0, 1, 2, 3, 4, 5, 6, 7, 8, 9]⟩ :: ⟨⟨some 73, .binOp .add 23 (.tmp 66) (.tmp 72) 23, none⟩, [0]⟩ :: ⟨⟨some 74, .move (.tmp 11), none⟩, [0, 1, 2, 3, 4, 5, 6, 7, 8, 9, 10, 11, 12, 13, 14, 15, 16]⟩ :: ⟨⟨some 75, .buildSlice 124 2 #[(0, (.const (.int .i64 17))), (1, (.const (.int .i64 19)))], none⟩, [0, 1, 2, 3, 4, 5, 6, 7, 8, 9, 10, 11, 12, 13, 14, 15, 16, 17]⟩ :: ⟨⟨some 76, .call { callee := .value (.func 72), args := #[(.tmp 74), (.tmp 75)], argTypes := #[23, 124] }, none⟩, [0, 1, 2, 3, 4, 5, 6, 7, 8, 9, 13, 14, 15, 16]⟩ :: d_sha_take_13
@[go_sem ↓] def ud_sha_take_14 := @unD _ _ d_sha_take_14.eq_1
def c_sha_take_15 : C := (.seq (.draw (⟨⟨some 57, .move (.tmp 9), none⟩, []⟩ :: ⟨⟨some 58, .move (.tmp 9), none⟩, [0]⟩ :: ⟨⟨some 59, .binOp .sub 3 (.tmp 58) (.const (.int .i64 16)) 3, none⟩, [0]⟩ :: ⟨⟨some 60, .indexAddr 117 (.tmp 5) (.tmp 59), none⟩, [0]⟩ :: ⟨⟨some 61, .load 23 (.tmp 60), none⟩, [0]⟩ :: ⟨⟨some 62, .move (.tmp 9), none⟩, [0, 1, 2, 3, 4]⟩ :: ⟨⟨some 63, .binOp .sub 3 (.tmp 62) (.const (.int .i64 7)) 3, none⟩, [0, 1, 2, 3, 4]⟩ :: ⟨⟨some 64, .indexAddr 117 (.tmp 5) (.tmp 63), none⟩, [0, 1, 2, 3, 4]⟩ :: ⟨⟨some 65, .load 23 (.tmp 64), none⟩, [0, 1, 2, 3, 4]⟩ :: ⟨⟨some 66, .binOp .add 23 (.tmp 61) (.tmp 65) 23, none⟩, [0]⟩ :: ⟨⟨some 67, .move (.tmp 10), none⟩, [0, 1, 2, 3, 4, 5, 6, 7, 8, 9]⟩ :: ⟨⟨some 68, .buildSlice 124 2 #[(0, (.const (.int .i64 7))), (1, (.const (.int .i64 18)))], none⟩, [0, 1, 2, 3, 4, 5, 6, 7, 8, 9, 10]⟩ :: ⟨⟨some 69, .call { callee := .value (.func 72), args := #[(.tmp 67), (.tmp 68)], argTypes := #[23, 124] }, none⟩, [0, 1, 2, 3, 4, 5, 6, 7, 8, 9]⟩ :: d_sha_take_14)) (.keep [2, 4, 5, 9]))
@[go_sem ↓] def uc_sha_take_15 := @unC _ _ c_sha_take_15.eq_1
def c_sha_take_16 : C := (.seq (.reg ([⟨some 47, .move (.tmp 9), none⟩, ⟨some 48, .binOp .add 3 (.tmp 47) (.const (.int .i64 1)) 3, none⟩, ⟨some 9, .assign (.tmp 48), none⟩])) (.keep [2, 4, 5, 9]))
@[go_sem ↓] def uc_sha_take_16 := @unC _ _ c_sha_take_16.eq_1
def c_sha_take_17 : C := (.seq (.block 5 (.seq (.seq (.draw ([⟨⟨some 49, .move (.tmp 9), none⟩, []⟩, ⟨⟨some 50, .binOp .sub 3 (.tmp 49) (.const (.int .i64 15)) 3, none⟩, []⟩, ⟨⟨some 51, .indexAddr 117 (.tmp 5) (.tmp 50), none⟩, []⟩, ⟨⟨some 52, .load 23 (.tmp 51), none⟩, []⟩, ⟨⟨some 53, .move (.tmp 9), none⟩, [0, 1, 2, 3]⟩, ⟨⟨some 54, .binOp .sub 3 (.tmp 53) (.const (.int .i64 2)) 3, none⟩, [0, 1, 2, 3]⟩, ⟨⟨some 55, .indexAddr 117 (.tmp 5) (.tmp 54), none⟩, [0, 1, 2, 3]⟩, ⟨⟨some 56, .load 23 (.tmp 55), none⟩, [0, 1, 2, 3]⟩, ⟨⟨some 10, .assign (.tmp 52), none⟩, [4, 5, 6, 7]⟩, ⟨⟨some 11, .assign (.tmp 56), none⟩, []⟩])) (.keep [2, 4, 5, 9, 10, 11])) c_sha_take_15)) c_sha_take_16)
@[go_sem ↓] def uc_sha_take_17 := @unC _ _ c_sha_take_17.eq_1
def c_sha_take_18 : C := (.seq (.seq (.seq (.reg ([⟨some 45, .move (.tmp 9), none⟩, ⟨some 46, .binOp .lss 3 (.tmp 45) (.const (.int .i64 64)) 3, none⟩])) (.keep [2, 4, 5, 9, 46])) c_sha_take_12) c_sha_take_17)
@[go_sem ↓] def uc_sha_take_18 := @unC _ _ c_sha_take_18.eq_1
def c_sha_take_19 : C := (.block 4 (.loop [] [2, 4, 5, 9] c_sha_take_18))
@[go_sem ↓] def uc_sha_take_19 := @unC _ _ c_sha_take_19.eq_1
def d_sha_take_20 : List D := [⟨⟨some 95, .binOp .add 23 (.tmp 91) (.tmp 94) 23, none⟩, []⟩, ⟨⟨some 96, .move (.tmp 15), none⟩, [0, 1, 2, 3, 4, 5]⟩, ⟨⟨some 97, .indexAddr 24 (.tmp 12) (.const (.int .i64 5)), none⟩, [0, 1, 2, 3, 4, 5, 6]⟩, ⟨⟨some 98, .load 23 (.tmp 97), none⟩, [0, 1, 2, 3, 4, 5, 6]⟩, ⟨⟨some 99, .binOp .and 23 (.tmp 96) (.tmp 98) 23, none⟩, [0, 1, 2, 3, 4, 5]⟩, ⟨⟨some 100, .move (.tmp 15), none⟩, [0, 1, 2, 3, 4, 5, 6, 7, 8, 9]⟩, ⟨⟨some 101, .unOp .xor 23 (.tmp 100), none⟩, [0, 1, 2, 3, 4, 5, 6, 7, 8, 9]⟩, ⟨⟨some 102, .indexAddr 24 (.tmp 12) (.const (.int .i64 6)), none⟩, [0, 1, 2, 3, 4, 5, 6, 7, 8, 9, 10, 11]⟩, ⟨⟨some 103, .load 23 (.tmp 102), none⟩, [0, 1, 2, 3, 4, 5, 6, 7, 8, 9, 10, 11]⟩, ⟨⟨some 104, .binOp .and 23 (.tmp 101) (.tmp 103) 23, none⟩, [0, 1, 2, 3, 4, 5, 6, 7, 8, 9]⟩, ⟨⟨some 105, .binOp .xor 23 (.tmp 99) (.tmp 104) 23, none⟩, [0, 1, 2, 3, 4, 5]⟩, ⟨⟨some 106, .binOp .add 23 (.tmp 95) (.tmp 105) 23, none⟩, []⟩, ⟨⟨some 107, .move (.tmp 13), none⟩, [0, 1, 2, 3, 4, 5, 6, 7, 8, 9, 10, 11, 12, 13, 14, 15, 16]⟩, ⟨⟨some 108, .indexAddr 117 (.global 1) (.tmp 107), none⟩, [0, 1, 2, 3, 4, 5, 6, 7, 8, 9, 10, 11, 12, 13, 14, 15, 16]⟩, ⟨⟨some 109, .load 23 (.tmp 108), none⟩, [0, 1, 2, 3, 4, 5, 6, 7, 8, 9, 10, 11, 12, 13, 14, 15, 16]⟩, ⟨⟨some 110, .binOp .add 23 (.tmp 106) (.tmp 109) 23, none⟩, []⟩, ⟨⟨some 111, .move (.tmp 13), none⟩, [0, 1, 2, 3, 4, 5, 6, 7, 8, 9, 10, 11, 12, 13, 14, 15, 16, 17, 18, 19, 20]⟩, ⟨⟨some 112, .indexAddr 117 (.tmp 5) (.tmp 111), none⟩, [0, 1, 2, 3, 4, 5, 6, 7, 8, 9, 10, 11, 12, 13, 14, 15, 16, 17, 18, 19, 20]⟩, ⟨⟨some 113, .load 23 (.tmp 112), none⟩, [0, 1, 2, 3, 4, 5, 6, 7, 8, 9, 10, 11, 12, 13, 14, 15, 16, 17, 18, 19, 20]⟩, ⟨⟨some 114, .binOp .add 23 (.tmp 110) (.tmp 113) 23, none⟩, []⟩, ⟨⟨some 16, .assign (.tmp 114), none⟩, []⟩]
@[go_sem ↓] def ud_sha_take_20 := @unD _ _ d_sha_take_20.eq_1
def d_sha_take_21 : List D := [⟨⟨some 118, .move (.tmp 14), none⟩, [0, 1, 2]⟩, ⟨⟨some 119, .indexAddr 24 (.tmp 12) (.const (.int .i64 1)), none⟩, [0, 1, 2, 3]⟩, ⟨⟨some 120, .load 23 (.tmp 119), none⟩, [0, 1, 2, 3]⟩, ⟨⟨some 121, .binOp .and 23 (.tmp 118) (.tmp 120) 23, none⟩, [0, 1, 2]⟩, ⟨⟨some 122, .move (.tmp 14), none⟩, [0, 1, 2, 3, 4, 5, 6]⟩, ⟨⟨some 123, .indexAddr 24 (.tmp 12) (.const (.int .i64 2)), none⟩, [0, 1, 2, 3, 4, 5, 6, 7]⟩, ⟨⟨some 124, .load 23 (.tmp 123), none⟩, [0, 1, 2, 3, 4, 5, 6, 7]⟩, ⟨⟨some 125, .binOp .and 23 (.tmp 122) (.tmp 124) 23, none⟩, [0, 1, 2, 3, 4, 5, 6]⟩, ⟨⟨some 126, .binOp .xor 23 (.tmp 121) (.tmp 125) 23, none⟩, [0, 1, 2]⟩, ⟨⟨some 127, .indexAddr 24 (.tmp 12) (.const (.int .i64 1)), none⟩, [0, 1, 2, 3, 4, 5, 6, 7, 8, 9, 10, 11]⟩, ⟨⟨some 128, .load 23 (.tmp 127), none⟩, [0, 1, 2, 3, 4, 5, 6, 7, 8, 9, 10, 11]⟩, ⟨⟨some 129, .indexAddr 24 (.tmp 12) (.const (.int .i64 2)), none⟩, [0, 1, 2, 3, 4, 5, 6, 7, 8, 9, 10, 11, 12, 13]⟩, ⟨⟨some 130, .load 23 (.tmp 129), none⟩, [0, 1, 2, 3, 4, 5, 6, 7, 8, 9, 10, 11, 12, 13]⟩, ⟨⟨some 131, .binOp .and 23 (.tmp 128) (.tmp 130) 23, none⟩, [0, 1, 2, 3, 4, 5, 6, 7, 8, 9, 10, 11]⟩, ⟨⟨some 132, .binOp .xor 23 (.tmp 126) (.tmp 131) 23, none⟩, [0, 1, 2]⟩, ⟨⟨some 133, .binOp .add 23 (.tmp 117) (.tmp 132) 23, none⟩, []⟩, ⟨⟨some 17, .assign (.tmp 133), none⟩, []⟩]
@[go_sem ↓] def ud_sha_take_21 := @unD _ _ d_sha_take_21.eq_1
def c_sha_take_22 : C := (.seq (.reg ([⟨some 137, .move (.tmp 16), none⟩, ⟨some 138, .move (.tmp 17), none⟩, ⟨some 139, .binOp .add 23 (.tmp 137) (.tmp 138) 23, none⟩, ⟨some 140, .indexAddr 24 (.tmp 12) (.const (.int .i64 4)), none⟩, ⟨some 141, .load 23 (.tmp 140), none⟩, ⟨some 142, .move (.tmp 16), none⟩, ⟨some 143, .binOp .add 23 (.tmp 141) (.tmp 142) 23, none⟩, ⟨some 144, .indexAddr 24 (.tmp 12) (.const (.int .i64 0)), none⟩, ⟨none, .store 23 (.tmp 144) (.tmp 139), none⟩, ⟨some 145, .indexAddr 24 (.tmp 12) (.const (.int .i64 4)), none⟩, ⟨none, .store 23 (.tmp 145) (.tmp 143), none⟩])) (.keep [2, 4, 5, 12, 83]))
@[go_sem ↓] def uc_sha_take_22 := @unC _ _ c_sha_take_22.eq_1
def c_sha_take_23 : C := (.seq (.seq (.draw ([⟨⟨some 134, .slice 24 (.tmp 12) (some (.const (.int .i64 1))) none none, none⟩, []⟩, ⟨⟨some 135, .slice 24 (.tmp 12) none (some (.const (.int .i64 7))) none, none⟩, [0]⟩, ⟨⟨some 136, .call { callee := .builtin .copy, args := #[(.tmp 134), (.tmp 135)], argTypes := #[119, 119] }, none⟩, []⟩])) (.keep [2, 4, 5, 12, 16, 17, 83])) c_sha_take_22)
@[go_sem ↓] def uc_sha_take_23 := @unC _ _ c_sha_take_23.eq_1
def c_sha_take_24 : C := (.seq (.seq (.draw (⟨⟨some 115, .move (.tmp 14), none⟩, []⟩ :: ⟨⟨some 116, .buildSlice 124 3 #[(0, (.const (.int .i64 2))), (1, (.const (.int .i64 13))), (2, (.const (.int .i64 22)))], none⟩, [0]⟩ :: ⟨⟨some 117, .call { callee := .value (.func 72), args := #[(.tmp 115), (.tmp 116)], argTypes := #[23, 124] }, none⟩, []⟩ :: d_sha_take_21)) (.keep [2, 4, 5, 12, 16, 17, 83])) c_sha_take_23)
@[go_sem ↓] def uc_sha_take_24 := @unC _ _ c_sha_take_24.eq_1
def c_sha_take_25 : C := (.seq (.seq (.draw (⟨⟨some 90, .indexAddr 24 (.tmp 12) (.const (.int .i64 7)), none⟩, []⟩ :: ⟨⟨some 91, .load 23 (.tmp 90), none⟩, []⟩ :: ⟨⟨some 92, .move (.tmp 15), none⟩, [0, 1]⟩ :: ⟨⟨some 93, .buildSlice 124 3 #[(0, (.const (.int .i64 6))), (1, (.const (.int .i64 11))), (2, (.const (.int .i64 25)))], none⟩, [0, 1, 2]⟩ :: ⟨⟨some 94, .call { callee := .value (.func 72), args := #[(.tmp 92), (.tmp 93)], argTypes := #[23, 124] }, none⟩, [0, 1]⟩ :: d_sha_take_20)) (.keep [2, 4, 5, 12, 14, 16, 83])) c_sha_take_24)
@[go_sem ↓] def uc_sha_take_25 := @unC _ _ c_sha_take_25.eq_1
def c_sha_take_26 : C := (.seq (.seq (.draw ([⟨⟨some 86, .indexAddr 24 (.tmp 12) (.const (.int .i64 0)), none⟩, []⟩, ⟨⟨some 87, .load 23 (.tmp 86), none⟩, []⟩, ⟨⟨some 88, .indexAddr 24 (.tmp 12) (.const (.int .i64 4)), none⟩, [0, 1]⟩, ⟨⟨some 89, .load 23 (.tmp 88), none⟩, [0, 1]⟩, ⟨⟨some 14, .assign (.tmp 87), none⟩, [2, 3]⟩, ⟨⟨some 15, .assign (.tmp 89), none⟩, []⟩])) (.keep [2, 4, 5, 12, 13, 14, 15, 83])) c_sha_take_25)
@[go_sem ↓] def uc_sha_take_26 := @unC _ _ c_sha_take_26.eq_1
def c_sha_take_27 : C := (.seq (.reg ([⟨some 146, .binOp .add 3 (.tmp 83) (.const (.int .i64 1)) 3, none⟩, ⟨some 83, .move (.tmp 146), none⟩])) (.keep [2, 4, 5, 12, 83]))
@[go_sem ↓] def uc_sha_take_27 := @unC _ _ c_sha_take_27.eq_1
def c_sha_take_28 : C := (.seq (.block 7 (.seq (.seq (.reg ([⟨some 85, .move (.tmp 83), none⟩, ⟨some 13, .assign (.tmp 85), none⟩])) (.keep [2, 4, 5, 12, 13, 83])) c_sha_take_26)) c_sha_take_27)
@[go_sem ↓] def uc_sha_take_28 := @unC _ _ c_sha_take_28.eq_1
def c_sha_take_29 : C := (.seq (.cond (.tmp 84) .skip (.exit 6)) c_sha_take_28)
@[go_sem ↓] def uc_sha_take_29 := @unC _ _ c_sha_take_29.eq_1
def c_sha_take_30 : C := (.seq (.seq (.reg ([⟨some 84, .binOp .lss 3 (.tmp 83) (.const (.int .i64 64)) 3, none⟩])) (.keep [2, 4, 5, 12, 83, 84])) c_sha_take_29)
@[go_sem ↓] def uc_sha_take_30 := @unC _ _ c_sha_take_30.eq_1
def c_sha_take_31 : C := (.block 6 (.loop [] [2, 4, 5, 12, 83] c_sha_take_30))
@[go_sem ↓] def uc_sha_take_31 := @unC _ _ c_sha_take_31.eq_1
def c_sha_take_32 : C := (.seq (.draw ([⟨⟨some 150, .move (.tmp 18), none⟩, []⟩, ⟨⟨some 151, .indexAddr 24 (.tmp 2) (.tmp 150), none⟩, []⟩, ⟨⟨some 152, .load 23 (.tmp 151), none⟩, []⟩, ⟨⟨some 153, .move (.tmp 18), none⟩, [0, 1, 2]⟩, ⟨⟨some 154, .indexAddr 24 (.tmp 12) (.tmp 153), none⟩, [0, 1, 2]⟩, ⟨⟨some 155, .load 23 (.tmp 154), none⟩, [0, 1, 2]⟩, ⟨⟨some 156, .binOp .add 23 (.tmp 152) (.tmp 155) 23, none⟩, []⟩, ⟨⟨some 157, .indexAddr 24 (.tmp 2) (.tmp 150), none⟩, []⟩, ⟨⟨none, .store 23 (.tmp 157) (.tmp 156), none⟩, []⟩])) (.keep [2, 4, 12, 147]))
@[go_sem ↓] def uc_sha_take_32 := @unC _ _ c_sha_take_32.eq_1
def c_sha_take_33 : C := (.seq (.reg ([⟨some 158, .binOp .add 3 (.tmp 147) (.const (.int .i64 1)) 3, none⟩, ⟨some 147, .move (.tmp 158), none⟩])) (.keep [2, 4, 12, 147]))
@[go_sem ↓] def uc_sha_take_33 := @unC _ _ c_sha_take_33.eq_1
def c_sha_take_34 : C := (.seq (.block 9 (.seq (.seq (.reg ([⟨some 149, .move (.tmp 147), none⟩, ⟨some 18, .assign (.tmp 149), none⟩])) (.keep [2, 4, 12, 18, 147])) c_sha_take_32)) c_sha_take_33)
@[go_sem ↓] def uc_sha_take_34 := @unC _ _ c_sha_take_34.eq_1
def c_sha_take_35 : C := (.seq (.cond (.tmp 148) .skip (.exit 8)) c_sha_take_34)
@[go_sem ↓] def uc_sha_take_35 := @unC _ _ c_sha_take_35.eq_1
def c_sha_take_36 : C := (.seq (.seq (.reg ([⟨some 148, .binOp .lss 3 (.tmp 147) (.const (.int .i64 8)) 3, none⟩])) (.keep [2, 4, 12, 147, 148])) c_sha_take_35)
@[go_sem ↓] def uc_sha_take_36 := @unC _ _ c_sha_take_36.eq_1
def c_sha_take_37 : C := (.block 8 (.loop [] [2, 4, 12, 147] c_sha_take_36))
@[go_sem ↓] def uc_sha_take_37 := @unC _ _ c_sha_take_37.eq_1
def c_sha_take_38 : C := (.seq (.seq (.reg ([⟨some 159, .load 24 (.tmp 2), none⟩, ⟨none, .store 24 (.tmp 4) (.tmp 159), none⟩])) (.keep [4])) .ret)
@[go_sem ↓] def uc_sha_take_38 := @unC _ _ c_sha_take_38.eq_1
def c_sha_take_39 : C := (.seq (.seq (.seq (.reg ([⟨some 147, .move (.const (.int .i64 0)), none⟩])) (.keep [2, 4, 12, 147])) c_sha_take_37) c_sha_take_38)
@[go_sem ↓] def uc_sha_take_39 := @unC _ _ c_sha_take_39.eq_1
def c_sha_take_40 : C := (.seq (.seq (.seq (.reg ([⟨some 83, .move (.const (.int .i64 0)), none⟩])) (.keep [2, 4, 5, 12, 83])) c_sha_take_31) c_sha_take_39)
@[go_sem ↓] def uc_sha_take_40 := @unC _ _ c_sha_take_40.eq_1
def c_sha_take_41 : C := (.seq (.seq (.reg ([⟨some 82, .load 24 (.tmp 2), none⟩, ⟨some 12, .alloc 24, none⟩, ⟨none, .store 24 (.tmp 12) (.tmp 82), none⟩])) (.keep [2, 4, 5, 12])) c_sha_take_40)
@[go_sem ↓] def uc_sha_take_41 := @unC _ _ c_sha_take_41.eq_1
def c_sha_take_42 : C := (.seq (.seq (.seq (.reg ([⟨some 9, .assign (.const (.int .i64 16)), none⟩])) (.keep [2, 4, 5, 9])) c_sha_take_19) c_sha_take_41)
@[go_sem ↓] def uc_sha_take_42 := @unC _ _ c_sha_take_42.eq_1
def c_sha_take_43 : C := (.seq (.seq (.seq (.reg ([⟨some 19, .move (.const (.int .i64 0)), none⟩])) (.keep [1, 2, 4, 5, 19])) c_sha_take_11) c_sha_take_42)
@[go_sem ↓] def uc_sha_take_43 := @unC _ _ c_sha_take_43.eq_1
def c_sha_take_44 : C := (.seq (.seq (.reg ([⟨some 5, .alloc 117, none⟩])) (.keep [1, 2, 4, 5])) c_sha_take_43)
@[go_sem ↓] def uc_sha_take_44 := @unC _ _ c_sha_take_44.eq_1
def c_sha_take : C := (.seq (.seq (.reg ([⟨some 2, .box 24 (.tmp 0), none⟩, ⟨some 4, .alloc 24, none⟩])) (.keep [1, 2, 4])) c_sha_take_44)
attribute [go_sem ↓] c_sha_take
def h_sha_take : List Hint := [⟨[], [1, 2, 4], []⟩, ⟨[], [1, 2, 4, 5], []⟩, ⟨[], [1, 2, 4, 5, 19], []⟩, ⟨[], [1, 2, 4, 5, 19], []⟩, ⟨[], [1, 2, 4, 5, 19, 20], []⟩, ⟨[], [1, 2, 4, 5, 6, 19], []⟩, ⟨[], [1, 2, 4, 5, 6, 19, 28, 29, 30], []⟩, ⟨[], [1, 2, 4, 5, 6, 19, 28, 29, 30], []⟩, ⟨[], [1, 2, 4, 5, 6, 19, 28, 29, 30, 31], []⟩, ⟨[], [1, 2, 4, 5, 6, 8, 19, 28, 29, 30], []⟩, ⟨[], [1, 2, 4, 5, 6, 19, 28, 29, 30], []⟩, ⟨[], [1, 2, 4, 5, 6, 19, 28, 29, 30], []⟩, ⟨[], [1, 2, 4, 5, 19], []⟩, ⟨[], [2, 4, 5, 9], []⟩, ⟨[], [2, 4, 5, 9], []⟩, ⟨[], [2, 4, 5, 9, 46], []⟩, ⟨[], [2, 4, 5, 9, 10, 11], []⟩, ⟨[], [2, 4, 5, 9], []⟩, ⟨[], [2, 4, 5, 9], []⟩, ⟨[], [2, 4, 5, 12], []⟩, ⟨[], [2, 4, 5, 12, 83], []⟩, ⟨[], [2, 4, 5, 12, 83], []⟩, ⟨[], [2, 4, 5, 12, 83, 84], []⟩, ⟨[], [2, 4, 5, 12, 13, 83], []⟩, ⟨[], [2, 4, 5, 12, 13, 14, 15, 83], []⟩, ⟨[], [2, 4, 5, 12, 14, 16, 83], []⟩, ⟨[], [2, 4, 5, 12, 16, 17, 83], []⟩, ⟨[], [2, 4, 5, 12, 16, 17, 83], []⟩, ⟨[], [2, 4, 5, 12, 83], []⟩, ⟨[], [2, 4, 5, 12, 83], []⟩, ⟨[], [2, 4, 12, 147], []⟩, ⟨[], [2, 4, 12, 147], []⟩, ⟨[], [2, 4, 12, 147, 148], []⟩, ⟨[], [2, 4, 12, 18, 147], []⟩, ⟨[], [2, 4, 12, 147], []⟩, ⟨[], [2, 4, 12, 147], []⟩, ⟨[], [4], []⟩]
theorem b_sha_take : Body Tryd.prog 59 [] h_sha_take c_sha_take 160 [.cell 4 24] := body_of Tryd.func59 (by kernel_rfl) (by kernel_rfl) (by kernel_rfl) (by kernel_rfl)
def c_sha_turns : C := (.seq (.seq (.reg ([⟨some 4, .assign (.const (.int .u32 0)), none⟩])) (.keep [0, 1])) (.seq (.seq (.reg ([⟨some 5, .assign (.const (.int .u32 0)), none⟩])) (.keep [0, 1, 5])) (.seq (.seq (.seq (.reg ([⟨some 8, .move (.tmp 1), none⟩, ⟨some 9, .call { callee := .builtin .len, args := #[(.tmp 8)], argTypes := #[124] }, none⟩, ⟨some 10, .move (.const (.int .i64 0)), none⟩])) (.keep [0, 5, 8, 9, 10])) (.block 0 (.loop [] [0, 5, 8, 9, 10] (.seq (.seq (.reg ([⟨some 11, .binOp .lss 3 (.tmp 10) (.tmp 9) 3, none⟩])) (.keep [0, 5, 8, 9, 10, 11])) (.seq (.cond (.tmp 11) .skip (.exit 0)) (.seq (.block 1 (.seq (.seq (.reg ([⟨some 12, .indexAddr 124 (.tmp 8) (.tmp 10), none⟩, ⟨some 13, .load 3 (.tmp 12), none⟩, ⟨some 7, .assign (.tmp 13), none⟩])) (.keep [0, 5, 7, 8, 9, 10])) (.seq (.reg ([⟨some 14, .move (.tmp 5), none⟩, ⟨some 15, .move (.tmp 0), none⟩, ⟨some 16, .move (.tmp 7), none⟩, ⟨some 17, .unOp .neg 3 (.tmp 16), none⟩, ⟨some 18, .call { callee := .value (.func 76), args := #[(.tmp 15), (.tmp 17)], argTypes := #[23, 3] }, none⟩, ⟨some 19, .binOp .xor 23 (.tmp 14) (.tmp 18) 23, none⟩, ⟨some 5, .assign (.tmp 19), none⟩])) (.keep [0, 5, 8, 9, 10])))) (.seq (.reg ([⟨some 20, .binOp .add 3 (.tmp 10) (.const (.int .i64 1)) 3, none⟩, ⟨some 10, .move (.tmp 20), none⟩])) (.keep [0, 5, 8, 9, 10])))))))) (.seq (.seq (.reg ([⟨some 21, .move (.tmp 5), none⟩, ⟨some 4, .assign (.tmp 21), none⟩])) (.keep [4])) .ret))))
attribute [go_sem ↓] c_sha_turns
def h_sha_turns : List Hint := [⟨[], [0, 1], []⟩, ⟨[], [0, 1, 5], []⟩, ⟨[], [0, 5, 8, 9, 10], []⟩, ⟨[], [0, 5, 8, 9, 10], []⟩, ⟨[], [0, 5, 8, 9, 10, 11], []⟩, ⟨[], [0, 5, 7, 8, 9, 10], []⟩, ⟨[], [0, 5, 8, 9, 10], []⟩, ⟨[], [0, 5, 8, 9, 10], []⟩, ⟨[], [4], []⟩]
theorem b_sha_turns : Body Tryd.prog 72 [] h_sha_turns c_sha_turns 22 [.tmp 4] := body_of Tryd.func72 (by kernel_rfl) (by kernel_rfl) (by kernel_rfl) (by kernel_rfl)
-- math/bits.RotateLeft32
def c_bits_RotateLeft32 : C := (.seq (.seq (.reg ([⟨some 4, .assign (.const (.int .u32 0)), none⟩])) (.keep [0, 1])) (.seq (.seq (.reg ([⟨some 6, .move (.tmp 1), none⟩, ⟨some 7, .convert 3 112 (.tmp 6), none⟩, ⟨some 8, .binOp .and 112 (.tmp 7) (.const (.int .u64 31)) 112, none⟩, ⟨some 5, .assign (.tmp 8), none⟩])) (.keep [0, 5])) (.seq (.seq (.reg ([⟨some 9, .move (.tmp 0), none⟩, ⟨some 10, .move (.tmp 5), none⟩, ⟨some 11, .binOp .shl 23 (.tmp 9) (.tmp 10) 112, none⟩, ⟨some 12, .move (.tmp 0), none⟩, ⟨some 13, .move (.tmp 5), none⟩, ⟨some 14, .binOp .sub 112 (.const (.int .u64 32)) (.tmp 13) 112, none⟩, ⟨some 15, .binOp .shr 23 (.tmp 12) (.tmp 14) 112, none⟩, ⟨some 16, .binOp .or 23 (.tmp 11) (.tmp 15) 23, none⟩, ⟨some 4, .assign (.tmp 16), none⟩])) (.keep [4])) .ret)))
attribute [go_sem ↓] c_bits_RotateLeft32
def h_bits_RotateLeft32 : List Hint := [⟨[], [0, 1], []⟩, ⟨[], [0, 5], []⟩, ⟨[], [4], []⟩]
theorem b_bits_RotateLeft32 : Body Tryd.prog 76 [] h_bits_RotateLeft32 c_bits_RotateLeft32 17 [.tmp 4] := body_of Tryd.func76 (by kernel_rfl) (by kernel_rfl) (by kernel_rfl) (by kernel_rfl)

end Go.Proofs.YtgkmhmhbepfiaaaDoor.Pm

/-! PmCf -/
set_option linter.all false
set_option maxRecDepth 100000
namespace Go.Proofs.YtgkmhmhbepfiaaaDoor.Pm
open Go Go.RowKit Go.ChangeShapes Go.WideShapes Go.ChangeAt

theorem own : ownKnob Tryd.prog.godebug = none := by kernel_rfl
theorem laid : laidOutB Tryd.prog = true := by kernel_rfl

end Go.Proofs.YtgkmhmhbepfiaaaDoor.Pm

/-! PmCg -/
set_option linter.all false
set_option maxRecDepth 100000
namespace Go.Proofs.YtgkmhmhbepfiaaaDoor.Pm
open Go Go.RowKit

section
variable {d t e sz nb : Nat} {z xs : List T} {x : T}
theorem und {i : TI} (h : X.ti t = some i) : ∃ k, Tryd.prog.underlying t = some k ∧ dOK k i.d = true := ((tiOf_ok Tryd.prog).ok t i h).und
theorem und_int {k : IntKind} (h : X.ti t = some ⟨.int k, sz, nb, z⟩) : Tryd.prog.underlying t = some (.int k) := by
  obtain ⟨k', h1, h2⟩ := und h
  cases k' <;> simp only [dOK, Bool.false_eq_true, beq_iff_eq] at h2
  rw [h1, h2]
theorem und_arr {n : Nat} (h : X.ti t = some ⟨.array n e, sz, nb, z⟩) : Tryd.prog.underlying t = some (.array n e) := by
  obtain ⟨k', h1, h2⟩ := und h
  cases k' <;> simp only [dOK, Bool.false_eq_true, Bool.and_eq_true, beq_iff_eq] at h2
  rw [h1, h2.1, h2.2]
end
end Go.Proofs.YtgkmhmhbepfiaaaDoor.Pm
