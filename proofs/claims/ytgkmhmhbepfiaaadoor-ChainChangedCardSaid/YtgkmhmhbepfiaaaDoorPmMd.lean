/- Texts of this proof in one file: PmTy, PmKl, PmLa, PmHk, PmCf, PmCg. No law of Go's is stated here. -/
import Derived.Test.YtgkmhmhbepfiaaaDoorPmMc
import Derived.Test.YtgkmhmhbepfiaaaDoorRows
import Derived.KernelRfl
set_option linter.all false
set_option maxRecDepth 100000
namespace Go.Proofs.YtgkmhmhbepfiaaaDoor.Pm
open Go Go.RowKit
noncomputable abbrev X : Cx := Xof Tryd.prog
@[go_sem] theorem ti2 : X.ti 2 = some ⟨.int .i64, 1, 8, [.i .i64 0]⟩ := by kernel_rfl
@[go_sem] theorem ti3 : X.ti 3 = some ⟨.int .i64, 1, 8, [.i .i64 0]⟩ := by kernel_rfl
@[go_sem] theorem ti4 : X.ti 4 = some ⟨.bool, 1, 1, [.b false]⟩ := by kernel_rfl
@[go_sem] theorem ti5 : X.ti 5 = some ⟨.int .u8, 1, 1, [.i .u8 0]⟩ := by kernel_rfl
@[go_sem] theorem ti6 : X.ti 6 = some ⟨.int .u8, 1, 1, [.i .u8 0]⟩ := by kernel_rfl
@[go_sem] theorem ti7 : X.ti 7 = some ⟨.struct [(0, 2), (1, 3), (2, 4), (3, 6)], 4, 24, [.i .i64 0, .i .i64 0, .b false, .i .u8 0]⟩ := by kernel_rfl
@[go_sem] theorem ti8 : X.ti 8 = some ⟨.struct [(0, 2), (1, 3), (2, 4), (3, 6)], 4, 24, [.i .i64 0, .i .i64 0, .b false, .i .u8 0]⟩ := by kernel_rfl
@[go_sem] theorem ti9 : X.ti 9 = some ⟨.str, 1, 16, [.s ⟨#[]⟩]⟩ := by kernel_rfl
@[go_sem] theorem ti10 : X.ti 10 = some ⟨.str, 1, 16, [.s ⟨#[]⟩]⟩ := by kernel_rfl
@[go_sem] theorem ti11 : X.ti 11 = some ⟨.str, 1, 16, [.s ⟨#[]⟩]⟩ := by kernel_rfl
@[go_sem] theorem ti12 : X.ti 12 = some ⟨.int .u64, 1, 8, [.i .u64 0]⟩ := by kernel_rfl
@[go_sem] theorem ti13 : X.ti 13 = some ⟨.struct [(0, 9), (1, 12)], 2, 24, [.s ⟨#[]⟩, .i .u64 0]⟩ := by kernel_rfl
@[go_sem] theorem ti14 : X.ti 14 = some ⟨.struct [(0, 9), (1, 12)], 2, 24, [.s ⟨#[]⟩, .i .u64 0]⟩ := by kernel_rfl
@[go_sem] theorem ti21 : X.ti 21 = some ⟨.int .i32, 1, 4, [.i .i32 0]⟩ := by kernel_rfl
@[go_sem] theorem ti22 : X.ti 22 = some ⟨.slice 5, 1, 24, [.sl []]⟩ := by kernel_rfl
@[go_sem] theorem ti23 : X.ti 23 = some ⟨.int .u32, 1, 4, [.i .u32 0]⟩ := by kernel_rfl
@[go_sem] theorem ti24 : X.ti 24 = some ⟨.array 8 23, 8, 32, [.i .u32 0, .i .u32 0, .i .u32 0, .i .u32 0, .i .u32 0, .i .u32 0, .i .u32 0, .i .u32 0]⟩ := by kernel_rfl
@[go_sem] theorem ti25 : X.ti 25 = some ⟨.array 32 5, 32, 32, [.i .u8 0, .i .u8 0, .i .u8 0, .i .u8 0, .i .u8 0, .i .u8 0, .i .u8 0, .i .u8 0, .i .u8 0, .i .u8 0, .i .u8 0, .i .u8 0, .i .u8 0, .i .u8 0, .i .u8 0, .i .u8 0, .i .u8 0, .i .u8 0, .i .u8 0, .i .u8 0, .i .u8 0, .i .u8 0, .i .u8 0, .i .u8 0, .i .u8 0, .i .u8 0, .i .u8 0, .i .u8 0, .i .u8 0, .i .u8 0, .i .u8 0, .i .u8 0]⟩ := by kernel_rfl
@[go_sem] theorem ti26 : X.ti 26 = some ⟨.array 32 5, 32, 32, [.i .u8 0, .i .u8 0, .i .u8 0, .i .u8 0, .i .u8 0, .i .u8 0, .i .u8 0, .i .u8 0, .i .u8 0, .i .u8 0, .i .u8 0, .i .u8 0, .i .u8 0, .i .u8 0, .i .u8 0, .i .u8 0, .i .u8 0, .i .u8 0, .i .u8 0, .i .u8 0, .i .u8 0, .i .u8 0, .i .u8 0, .i .u8 0, .i .u8 0, .i .u8 0, .i .u8 0, .i .u8 0, .i .u8 0, .i .u8 0, .i .u8 0, .i .u8 0]⟩ := by kernel_rfl
@[go_sem] theorem ti27 : X.ti 27 = some ⟨.int .i64, 1, 8, [.i .i64 0]⟩ := by kernel_rfl
@[go_sem] theorem ti43 : X.ti 43 = some ⟨.struct [(0, 24), (8, 22), (9, 3)], 10, 64, [.i .u32 0, .i .u32 0, .i .u32 0, .i .u32 0, .i .u32 0, .i .u32 0, .i .u32 0, .i .u32 0, .sl [], .i .i64 0]⟩ := by kernel_rfl
@[go_sem] theorem ti44 : X.ti 44 = some ⟨.struct [(0, 24), (8, 22), (9, 3)], 10, 64, [.i .u32 0, .i .u32 0, .i .u32 0, .i .u32 0, .i .u32 0, .i .u32 0, .i .u32 0, .i .u32 0, .sl [], .i .i64 0]⟩ := by kernel_rfl
@[go_sem] theorem ti54 : X.ti 54 = some ⟨.slice 22, 1, 24, [.sl []]⟩ := by kernel_rfl
@[go_sem] theorem ti56 : X.ti 56 = some ⟨.slice 64, 1, 24, [.sl []]⟩ := by kernel_rfl
@[go_sem] theorem ti63 : X.ti 63 = some ⟨.struct [(0, 22), (1, 26)], 33, 56, [.sl [], .i .u8 0, .i .u8 0, .i .u8 0, .i .u8 0, .i .u8 0, .i .u8 0, .i .u8 0, .i .u8 0, .i .u8 0, .i .u8 0, .i .u8 0, .i .u8 0, .i .u8 0, .i .u8 0, .i .u8 0, .i .u8 0, .i .u8 0, .i .u8 0, .i .u8 0, .i .u8 0, .i .u8 0, .i .u8 0, .i .u8 0, .i .u8 0, .i .u8 0, .i .u8 0, .i .u8 0, .i .u8 0, .i .u8 0, .i .u8 0, .i .u8 0, .i .u8 0]⟩ := by kernel_rfl
@[go_sem] theorem ti64 : X.ti 64 = some ⟨.struct [(0, 22), (1, 26)], 33, 56, [.sl [], .i .u8 0, .i .u8 0, .i .u8 0, .i .u8 0, .i .u8 0, .i .u8 0, .i .u8 0, .i .u8 0, .i .u8 0, .i .u8 0, .i .u8 0, .i .u8 0, .i .u8 0, .i .u8 0, .i .u8 0, .i .u8 0, .i .u8 0, .i .u8 0, .i .u8 0, .i .u8 0, .i .u8 0, .i .u8 0, .i .u8 0, .i .u8 0, .i .u8 0, .i .u8 0, .i .u8 0, .i .u8 0, .i .u8 0, .i .u8 0, .i .u8 0, .i .u8 0]⟩ := by kernel_rfl
@[go_sem] theorem ti80 : X.ti 80 = some ⟨.slice 26, 1, 24, [.sl []]⟩ := by kernel_rfl
@[go_sem] theorem ti81 : X.ti 81 = some ⟨.struct [(0, 3), (1, 26), (33, 22), (34, 80)], 35, 88, [.i .i64 0, .i .u8 0, .i .u8 0, .i .u8 0, .i .u8 0, .i .u8 0, .i .u8 0, .i .u8 0, .i .u8 0, .i .u8 0, .i .u8 0, .i .u8 0, .i .u8 0, .i .u8 0, .i .u8 0, .i .u8 0, .i .u8 0, .i .u8 0, .i .u8 0, .i .u8 0, .i .u8 0, .i .u8 0, .i .u8 0, .i .u8 0, .i .u8 0, .i .u8 0, .i .u8 0, .i .u8 0, .i .u8 0, .i .u8 0, .i .u8 0, .i .u8 0, .i .u8 0, .sl [], .sl []]⟩ := by kernel_rfl
@[go_sem] theorem ti82 : X.ti 82 = some ⟨.struct [(0, 3), (1, 26), (33, 22), (34, 80)], 35, 88, [.i .i64 0, .i .u8 0, .i .u8 0, .i .u8 0, .i .u8 0, .i .u8 0, .i .u8 0, .i .u8 0, .i .u8 0, .i .u8 0, .i .u8 0, .i .u8 0, .i .u8 0, .i .u8 0, .i .u8 0, .i .u8 0, .i .u8 0, .i .u8 0, .i .u8 0, .i .u8 0, .i .u8 0, .i .u8 0, .i .u8 0, .i .u8 0, .i .u8 0, .i .u8 0, .i .u8 0, .i .u8 0, .i .u8 0, .i .u8 0, .i .u8 0, .i .u8 0, .i .u8 0, .sl [], .sl []]⟩ := by kernel_rfl
@[go_sem] theorem ti111 : X.ti 111 = some ⟨.slice 56, 1, 24, [.sl []]⟩ := by kernel_rfl
@[go_sem] theorem ti112 : X.ti 112 = some ⟨.int .u64, 1, 8, [.i .u64 0]⟩ := by kernel_rfl
@[go_sem] theorem ti116 : X.ti 116 = some ⟨.int .u64, 1, 8, [.i .u64 0]⟩ := by kernel_rfl
@[go_sem] theorem ti117 : X.ti 117 = some ⟨.array 64 23, 64, 256, List.replicate 64 (.i .u32 0)⟩ := by kernel_rfl
@[go_sem] theorem ti119 : X.ti 119 = some ⟨.slice 23, 1, 24, [.sl []]⟩ := by kernel_rfl
@[go_sem] theorem ti122 : X.ti 122 = some ⟨.array 68 5, 68, 68, List.replicate 68 (.i .u8 0)⟩ := by kernel_rfl
@[go_sem] theorem ti124 : X.ti 124 = some ⟨.slice 3, 1, 24, [.sl []]⟩ := by kernel_rfl
@[go_sem] theorem ti128 : X.ti 128 = some ⟨.array 0 16, 0, 0, []⟩ := by kernel_rfl
@[go_sem] theorem ti129 : X.ti 129 = some ⟨.struct [(0, 128)], 0, 0, []⟩ := by kernel_rfl
@[go_sem] theorem ti130 : X.ti 130 = some ⟨.struct [(0, 128)], 0, 0, []⟩ := by kernel_rfl
@[go_sem] theorem ti132 : X.ti 132 = some ⟨.int .u8, 1, 1, [.i .u8 0]⟩ := by kernel_rfl
@[go_sem] theorem ti133 : X.ti 133 = some ⟨.int .u8, 1, 1, [.i .u8 0]⟩ := by kernel_rfl
@[go_sem] theorem ti136 : X.ti 136 = some ⟨.int .i32, 1, 4, [.i .i32 0]⟩ := by kernel_rfl
@[go_sem] theorem ti137 : X.ti 137 = some ⟨.int .i32, 1, 4, [.i .i32 0]⟩ := by kernel_rfl
theorem mixed : Tryd.prog.follows .mixedOrders = true := by kernel_rfl
end Go.Proofs.YtgkmhmhbepfiaaaDoor.Pm
set_option linter.all false
set_option maxRecDepth 100000
namespace Go.Proofs.YtgkmhmhbepfiaaaDoor.Pm
open Go Go.RowKit
def c_slices_Clone : C := (.seq (.seq (.reg ([⟨some 2, .assign (.const (.slice none 0 0)), none⟩])) (.keep [0])) (.seq (.seq (.seq (.reg ([⟨some 3, .move (.tmp 0), none⟩, ⟨some 4, .binOp .eql 22 (.tmp 3) (.const (.slice none 0 0)) 22, none⟩])) (.keep [0, 4])) (.cond (.tmp 4) (.seq (.seq (.reg ([⟨some 2, .assign (.const (.slice none 0 0)), none⟩])) (.keep [2])) .ret) .skip)) (.seq (.seq (.reg ([⟨some 5, .buildSlice 22 0 #[], none⟩, ⟨some 6, .move (.tmp 0), none⟩, ⟨some 7, .call { callee := .builtin .append, args := #[(.tmp 5), (.tmp 6)], argTypes := #[22, 22] }, none⟩, ⟨some 2, .assign (.tmp 7), none⟩])) (.keep [2])) .ret)))
attribute [go_sem ↓] c_slices_Clone
def h_slices_Clone : List Hint := [⟨[], [0], []⟩, ⟨[], [0, 4], []⟩, ⟨[], [2], []⟩, ⟨[], [2], []⟩]
theorem b_slices_Clone : Body Tryd.prog 63 [] h_slices_Clone c_slices_Clone 8 [.tmp 2] := body_of Tryd.func63 (by kernel_rfl) (by kernel_rfl) (by kernel_rfl) (by kernel_rfl)
def c_slices_Concat : C := (.seq (.seq (.reg ([⟨some 2, .assign (.const (.slice none 0 0)), none⟩])) (.keep [0])) (.seq (.seq (.reg ([⟨some 3, .assign (.const (.int .i64 0)), none⟩])) (.keep [0, 3])) (.seq (.seq (.seq (.reg ([⟨some 9, .move (.tmp 0), none⟩, ⟨some 10, .call { callee := .builtin .len, args := #[(.tmp 9)], argTypes := #[54] }, none⟩, ⟨some 11, .move (.const (.int .i64 0)), none⟩])) (.keep [0, 3, 9, 10, 11])) (.block 0 (.loop [] [0, 3, 9, 10, 11] (.seq (.seq (.reg ([⟨some 12, .binOp .lss 3 (.tmp 11) (.tmp 10) 3, none⟩])) (.keep [0, 3, 9, 10, 11, 12])) (.seq (.cond (.tmp 12) .skip (.exit 0)) (.seq (.block 1 (.seq (.seq (.reg ([⟨some 13, .indexAddr 54 (.tmp 9) (.tmp 11), none⟩, ⟨some 14, .load 22 (.tmp 13), none⟩, ⟨some 5, .assign (.tmp 14), none⟩])) (.keep [0, 3, 5, 9, 10, 11])) (.seq (.seq (.reg ([⟨some 15, .move (.tmp 3), none⟩, ⟨some 16, .move (.tmp 5), none⟩, ⟨some 17, .call { callee := .builtin .len, args := #[(.tmp 16)], argTypes := #[22] }, none⟩, ⟨some 18, .binOp .add 3 (.tmp 15) (.tmp 17) 3, none⟩, ⟨some 3, .assign (.tmp 18), none⟩])) (.keep [0, 3, 9, 10, 11])) (.seq (.seq (.reg ([⟨some 19, .move (.tmp 3), none⟩, ⟨some 20, .binOp .lss 3 (.tmp 19) (.const (.int .i64 0)) 3, none⟩])) (.keep [0, 3, 9, 10, 11, 20])) (.cond (.tmp 20) (.seq (.reg ([⟨some 21, .makeInterface 9 (.const (.string ⟨#[108, 101, 110, 32, 111, 117, 116, 32, 111, 102, 32, 114, 97, 110, 103, 101]⟩)), none⟩, ⟨none, .panic (.tmp 21), none⟩])) (.keep [0, 3, 9, 10, 11])) .skip))))) (.seq (.reg ([⟨some 22, .binOp .add 3 (.tmp 11) (.const (.int .i64 1)) 3, none⟩, ⟨some 11, .move (.tmp 22), none⟩])) (.keep [0, 3, 9, 10, 11])))))))) (.seq (.seq (.reg ([⟨some 23, .move (.tmp 3), none⟩, ⟨some 24, .call { callee := .value (.func 75), args := #[(.const (.slice none 0 0)), (.tmp 23)], argTypes := #[22, 3] }, none⟩, ⟨some 6, .assign (.tmp 24), none⟩])) (.keep [0, 6])) (.seq (.seq (.seq (.reg ([⟨some 25, .move (.tmp 0), none⟩, ⟨some 26, .call { callee := .builtin .len, args := #[(.tmp 25)], argTypes := #[54] }, none⟩, ⟨some 27, .move (.const (.int .i64 0)), none⟩])) (.keep [6, 25, 26, 27])) (.block 2 (.loop [(6, 1)] [6, 25, 26, 27] (.seq (.seq (.reg ([⟨some 28, .binOp .lss 3 (.tmp 27) (.tmp 26) 3, none⟩])) (.keep [6, 25, 26, 27, 28])) (.seq (.cond (.tmp 28) .skip (.exit 2)) (.seq (.block 3 (.seq (.seq (.reg ([⟨some 29, .indexAddr 54 (.tmp 25) (.tmp 27), none⟩, ⟨some 30, .load 22 (.tmp 29), none⟩, ⟨some 8, .assign (.tmp 30), none⟩])) (.keep [6, 8, 25, 26, 27])) (.seq (.reg ([⟨some 31, .move (.tmp 6), none⟩, ⟨some 32, .move (.tmp 8), none⟩, ⟨some 33, .call { callee := .builtin .append, args := #[(.tmp 31), (.tmp 32)], argTypes := #[22, 22] }, none⟩, ⟨some 6, .assign (.tmp 33), none⟩])) (.keep [6, 25, 26, 27])))) (.seq (.reg ([⟨some 34, .binOp .add 3 (.tmp 27) (.const (.int .i64 1)) 3, none⟩, ⟨some 27, .move (.tmp 34), none⟩])) (.keep [6, 25, 26, 27])))))))) (.seq (.seq (.reg ([⟨some 35, .move (.tmp 6), none⟩, ⟨some 2, .assign (.tmp 35), none⟩])) (.keep [2])) .ret))))))
attribute [go_sem ↓] c_slices_Concat
def h_slices_Concat : List Hint := [⟨[], [0], []⟩, ⟨[], [0, 3], []⟩, ⟨[], [0, 3, 9, 10, 11], []⟩, ⟨[], [0, 3, 9, 10, 11], []⟩, ⟨[], [0, 3, 9, 10, 11, 12], []⟩, ⟨[], [0, 3, 5, 9, 10, 11], []⟩, ⟨[], [0, 3, 9, 10, 11], []⟩, ⟨[], [0, 3, 9, 10, 11, 20], []⟩, ⟨[], [0, 3, 9, 10, 11], []⟩, ⟨[], [0, 3, 9, 10, 11], []⟩, ⟨[], [0, 6], []⟩, ⟨[], [6, 25, 26, 27], []⟩, ⟨[(6, 1)], [6, 25, 26, 27], []⟩, ⟨[], [6, 25, 26, 27, 28], []⟩, ⟨[], [6, 8, 25, 26, 27], []⟩, ⟨[], [6, 25, 26, 27], []⟩, ⟨[], [6, 25, 26, 27], []⟩, ⟨[], [2], []⟩]
theorem b_slices_Concat : Body Tryd.prog 68 [] h_slices_Concat c_slices_Concat 36 [.tmp 2] := body_of Tryd.func68 (by kernel_rfl) (by kernel_rfl) (by kernel_rfl) (by kernel_rfl)
def c_slices_Grow : C := (.seq (.seq (.reg ([⟨some 4, .assign (.const (.slice none 0 0)), none⟩])) (.keep [0, 1])) (.seq (.seq (.seq (.reg ([⟨some 5, .move (.tmp 1), none⟩, ⟨some 6, .binOp .lss 3 (.tmp 5) (.const (.int .i64 0)) 3, none⟩])) (.keep [0, 1, 6])) (.cond (.tmp 6) (.seq (.reg ([⟨some 7, .makeInterface 9 (.const (.string ⟨#[99, 97, 110, 110, 111, 116, 32, 98, 101, 32, 110, 101, 103, 97, 116, 105, 118, 101]⟩)), none⟩, ⟨none, .panic (.tmp 7), none⟩])) (.keep [0, 1])) .skip)) (.seq (.seq (.seq (.reg ([⟨some 8, .move (.tmp 1), none⟩, ⟨some 9, .move (.tmp 0), none⟩, ⟨some 10, .call { callee := .builtin .cap, args := #[(.tmp 9)], argTypes := #[22] }, none⟩, ⟨some 11, .move (.tmp 0), none⟩, ⟨some 12, .call { callee := .builtin .len, args := #[(.tmp 11)], argTypes := #[22] }, none⟩, ⟨some 13, .binOp .sub 3 (.tmp 10) (.tmp 12) 3, none⟩, ⟨some 14, .binOp .sub 3 (.tmp 8) (.tmp 13) 3, none⟩, ⟨some 1, .assign (.tmp 14), none⟩])) (.keep [0, 1])) (.seq (.seq (.reg ([⟨some 15, .move (.tmp 1), none⟩, ⟨some 16, .binOp .gtr 3 (.tmp 15) (.const (.int .i64 0)) 3, none⟩])) (.keep [0, 1, 16])) (.cond (.tmp 16) (.seq (.reg ([⟨some 17, .move (.tmp 0), none⟩, ⟨some 18, .move (.tmp 0), none⟩, ⟨some 19, .call { callee := .builtin .cap, args := #[(.tmp 18)], argTypes := #[22] }, none⟩, ⟨some 20, .slice 22 (.tmp 17) none (some (.tmp 19)) none, none⟩, ⟨some 21, .move (.tmp 1), none⟩, ⟨some 22, .call { callee := .builtin .append, args := #[(.tmp 20), (.tmp 21)], argTypes := #[22, 3] }, none⟩, ⟨some 23, .move (.tmp 0), none⟩, ⟨some 24, .call { callee := .builtin .len, args := #[(.tmp 23)], argTypes := #[22] }, none⟩, ⟨some 25, .slice 22 (.tmp 22) none (some (.tmp 24)) none, none⟩, ⟨some 0, .assign (.tmp 25), none⟩])) (.keep [0])) .skip))) (.seq (.seq (.reg ([⟨some 26, .move (.tmp 0), none⟩, ⟨some 4, .assign (.tmp 26), none⟩])) (.keep [4])) .ret))))
attribute [go_sem ↓] c_slices_Grow
def h_slices_Grow : List Hint := [⟨[], [0, 1], []⟩, ⟨[], [0, 1, 6], []⟩, ⟨[], [0, 1], []⟩, ⟨[], [0, 1], []⟩, ⟨[], [0, 1, 16], []⟩, ⟨[], [0], []⟩, ⟨[], [4], []⟩]
theorem b_slices_Grow : Body Tryd.prog 75 [] h_slices_Grow c_slices_Grow 27 [.tmp 4] := body_of Tryd.func75 (by kernel_rfl) (by kernel_rfl) (by kernel_rfl) (by kernel_rfl)
end Go.Proofs.YtgkmhmhbepfiaaaDoor.Pm
set_option linter.all false
set_option maxRecDepth 100000
namespace Go.Proofs.YtgkmhmhbepfiaaaDoor.Pm
open Go Go.RowKit
theorem s_slices_Grow (n : Nat) (h0 : 0 < n) (hn : n ≤ 1000000) : Spec Tryd.prog 75 [.nl, .i .i64 n] [.row 0 1 [] true] (.row 0 0 0 0) := by
  refine spec_ko (hold mixed) b_slices_Grow [.row 0 1 [] true] [.row 0 0 0 0] ?_
  have h1 : ((n : Int) < 0) = False := eq_false (by omega)
  have h2 : ((n : Int) > 0) = True := eq_true (by omega)
  have h3 : IntKind.i64.wrap ((n : Int) - 0) = n := by rw [wrap_i64_id (by omega) (by omega)]; omega
  have h4 : IntKind.i64.wrap ((n : Int)) = n := by rw [wrap_i64_id (by omega) (by omega)]
  have h5 : IntKind.i64.wrap 0 = 0 := by decide
  simp -implicitDefEqProofs only [go_sem, seval, h1, h2, h3, h4, h5, Int.natCast_zero]
  refine ⟨⟨by unfold room; omega, by unfold room; omega⟩, ends_mk [0] ?_ ?_⟩ <;> simp -implicitDefEqProofs only [go_sem, seval]
theorem s_slices_Grow0 : Spec Tryd.prog 75 [.nl, .i .i64 0] [] .nl := by
  refine spec_ko (hold mixed) b_slices_Grow [] [.nl] ?_
  have h5 : IntKind.i64.wrap 0 = 0 := by decide
  simp -implicitDefEqProofs only [go_sem, seval, h5, Int.natCast_zero, gt_iff_lt, Int.lt_irrefl]
  refine ends_mk [] ?_ ?_ <;> simp -implicitDefEqProofs only [go_sem, seval]
def catE (bss : List (List (BitVec 8))) : List (List T) := bss.map fun bs => [.sl (bT bs)]
def catL (bss : List (List (BitVec 8))) : Nat := bss.flatten.length
theorem catE_length (bss : List (List (BitVec 8))) : (catE bss).length = bss.length := by simp [catE]
theorem catE_get {bss : List (List (BitVec 8))} {k : Nat} (h : k < bss.length) : (catE bss)[k]? = some [.sl (bT bss[k])] := by simp [catE, h]
theorem flat_step {bss : List (List (BitVec 8))} {k : Nat} (h : k < bss.length) : (bss.take (k + 1)).flatten = (bss.take k).flatten ++ bss[k] := by
  rw [← List.take_append_getElem h, List.flatten_append]; simp
theorem catL_step {bss : List (List (BitVec 8))} {k : Nat} (h : k < bss.length) : catL (bss.take (k + 1)) = catL (bss.take k) + bss[k].length := by
  unfold catL; rw [flat_step h, List.length_append]
theorem catL_le (bss : List (List (BitVec 8))) (k : Nat) : catL (bss.take k) ≤ catL bss := by
  unfold catL
  conv => rhs; rw [← List.take_append_drop k bss]
  rw [List.flatten_append, List.length_append]
  omega
def catF (bss : List (List (BitVec 8))) (k : Nat) : S := ⟨tmL [(6, .row 0 k 0 (catL (bss.take k))), (25, .t (.sl (catE bss)) false), (26, .t (.i .i64 bss.length) true), (27, .t (.i .i64 k) true)], [.row k 1 (bT (bss.take k).flatten) true]⟩
theorem okEs_bT (bs : List (BitVec 8)) : okEs 1 (bT bs) := by
  intro e he
  simp only [bT, List.mem_map] at he
  obtain ⟨_, _, rfl⟩ := he
  simp [T.one]
theorem bT_append (xs ys : List (BitVec 8)) : bT (xs ++ ys) = bT xs ++ bT ys := by simp [bT]
theorem catF_row (bss : List (List (BitVec 8))) {k : Nat} (hk : k < bss.length) : List.take (catL (bss.take k)) (bT (bss.take k).flatten) ++ bT bss[k] = bT (bss.take (k + 1)).flatten := by
  rw [flat_step hk, bT_append, List.take_of_length_le (by rw [bT_length]; exact Nat.le_refl _)]
theorem s_slices_Concat (bss : List (List (BitVec 8))) (hn : bss.length ≤ 1000) (hl : catL bss ≤ 1000000) : Spec Tryd.prog 68 [.sl (catE bss)] [.row 0 1 (bT bss.flatten) true] (.row 0 0 0 (catL bss)) := by
  refine spec_ko (hold mixed) b_slices_Concat [.row 0 1 (bT bss.flatten) true] [.row 0 0 0 (catL bss)] ?_
  simp -implicitDefEqProofs only [go_sem, seval, catE_length]
  refine loop_l (α := Nat) (fun k => ⟨tmL [(0, .t (.sl (catE bss)) false), (3, .t (.i .i64 (catL (bss.take k))) true), (9, .t (.sl (catE bss)) false), (10, .t (.i .i64 bss.length) true), (11, .t (.i .i64 k) true)], []⟩) (fun k => bss.length - k) (fun k => k ≤ bss.length) 0 (by simp -implicitDefEqProofs only [go_sem, seval]; rfl) (by omega) ?_
  intro k hk R hR
  simp -implicitDefEqProofs only [go_sem, seval]
  refine wcond_mk (fun h => ?_) (fun h => ?_)
  · have hk' : k < bss.length := by have := of_decide_eq_true h; omega
    have hs := catL_step hk'
    have hb := catL_le bss (k + 1)
    have hw : IntKind.i64.wrap (((catL (bss.take k) : Nat) : Int) + ((bss[k].length : Nat) : Int)) = ((catL (bss.take (k + 1)) : Nat) : Int) := by rw [wrap_i64_id (by omega) (by omega)]; omega
    have hneg : (((catL (bss.take (k + 1)) : Nat) : Int) < 0) = False := eq_false (by omega)
    simp -implicitDefEqProofs only [go_sem, seval, catE_get hk', catE_length, hw, hneg]
    refine hR (k + 1) _ ?_ (by omega) (by omega)
    simp -implicitDefEqProofs only [go_sem, seval, wrap_i64_id (show -9223372036854775808 ≤ (k : Int) + 1 by omega) (by omega), Int.natCast_add]
    try rfl
  · have hk' : ¬ k < bss.length := by have := of_decide_eq_false h; omega
    obtain rfl : k = bss.length := by omega
    simp -implicitDefEqProofs only [go_sem, seval, List.take_length]
    by_cases h0 : 0 < catL bss
    · refine call_k (s_slices_Grow (catL bss) h0 hl) ?_
      simp -implicitDefEqProofs only [go_sem, seval]
      refine loop_l (α := Nat) (catF bss) (fun k => bss.length - k) (fun k => k ≤ bss.length) 0 (by simp -implicitDefEqProofs only [go_sem, seval, catE_length]; rfl) (by omega) ?_
      intro k hk R hR
      simp -implicitDefEqProofs only [go_sem, seval, catF]
      refine wcond_mk (fun h => ?_) (fun h => ?_)
      · have hk' : k < bss.length := by have := of_decide_eq_true h; omega
        have hs := catL_step hk'
        have hb := catL_le bss (k + 1)
        simp -implicitDefEqProofs only [go_sem, seval, catE_get hk', catE_length]
        refine ⟨⟨okEs_bT _, Nat.le_refl _, by unfold room; omega⟩, hR (k + 1) _ ?_ (by omega) (by omega)⟩
        simp -implicitDefEqProofs only [go_sem, seval, wrap_i64_id (show -9223372036854775808 ≤ (k : Int) + 1 by omega) (by omega), Int.natCast_add]
        rw [← hs, catF_row bss hk']
        rfl
      · have hk' : ¬ k < bss.length := by have := of_decide_eq_false h; omega
        obtain rfl : k = bss.length := by omega
        simp -implicitDefEqProofs only [go_sem, seval, List.take_length]
        refine ends_mk [0] ?_ ?_
        · simp -implicitDefEqProofs only [go_sem, seval]
          exact List.take_of_length_le (by rw [bT_length]; exact Nat.le_refl _)
        · simp -implicitDefEqProofs only [go_sem, seval]
    · have hz : catL bss = 0 := by omega
      refine call_k s_slices_Grow0 ?_ (by simp -implicitDefEqProofs only [go_sem, seval, hz, Int.natCast_zero])
      simp -implicitDefEqProofs only [go_sem, seval]
      refine loop_l (α := Nat) (catF bss) (fun k => bss.length - k) (fun k => k ≤ bss.length) 0 (by simp -implicitDefEqProofs only [go_sem, seval, catE_length]; rfl) (by omega) ?_
      intro k hk R hR
      simp -implicitDefEqProofs only [go_sem, seval, catF]
      refine wcond_mk (fun h => ?_) (fun h => ?_)
      · have hk' : k < bss.length := by have := of_decide_eq_true h; omega
        have hs := catL_step hk'
        have hb := catL_le bss (k + 1)
        simp -implicitDefEqProofs only [go_sem, seval, catE_get hk', catE_length]
        refine ⟨⟨okEs_bT _, Nat.le_refl _, by unfold room; omega⟩, hR (k + 1) _ ?_ (by omega) (by omega)⟩
        simp -implicitDefEqProofs only [go_sem, seval, wrap_i64_id (show -9223372036854775808 ≤ (k : Int) + 1 by omega) (by omega), Int.natCast_add]
        rw [← hs, catF_row bss hk']
        rfl
      · have hk' : ¬ k < bss.length := by have := of_decide_eq_false h; omega
        obtain rfl : k = bss.length := by omega
        simp -implicitDefEqProofs only [go_sem, seval, List.take_length]
        refine ends_mk [0] ?_ ?_
        · simp -implicitDefEqProofs only [go_sem, seval]
          exact List.take_of_length_le (by rw [bT_length]; exact Nat.le_refl _)
        · simp -implicitDefEqProofs only [go_sem, seval]
theorem bT_cons (b : BitVec 8) (bs : List (BitVec 8)) : bT (b :: bs) = [.i .u8 b.toNat] :: bT bs := rfl
end Go.Proofs.YtgkmhmhbepfiaaaDoor.Pm
set_option linter.all false
set_option maxRecDepth 100000
namespace Go.Proofs.YtgkmhmhbepfiaaaDoor.Pm
open Go Go.RowKit
def c_sha_Sum : C := (.seq (.seq (.reg ([⟨some 2, .alloc 26, none⟩, ⟨some 3, .assign (.const (.int .i64 0)), none⟩])) (.keep [0, 2])) (.seq (.seq (.seq (.reg ([⟨some 4, .move (.tmp 0), none⟩, ⟨some 5, .call { callee := .builtin .len, args := #[(.tmp 4)], argTypes := #[22] }, none⟩, ⟨some 6, .binOp .gtr 3 (.tmp 5) (.const (.int .i64 1000000)) 3, none⟩])) (.keep [0, 2, 6])) (.cond (.tmp 6) (.seq (.seq (.reg ([⟨some 7, .build 26 #[], none⟩, ⟨none, .store 26 (.tmp 2) (.tmp 7), none⟩, ⟨some 3, .assign (.const (.int .i64 4)), none⟩])) (.keep [2, 3])) .ret) .skip)) (.seq (.seq (.reg ([⟨some 8, .call { callee := .value (.func 22), args := #[], argTypes := #[] }, none⟩, ⟨some 9, .move (.tmp 0), none⟩, ⟨some 10, .call { callee := .value (.func 55), args := #[(.tmp 8), (.tmp 9)], argTypes := #[44, 22] }, none⟩, ⟨some 11, .call { callee := .value (.func 54), args := #[(.tmp 10)], argTypes := #[44] }, none⟩, ⟨none, .store 26 (.tmp 2) (.tmp 11), none⟩, ⟨some 3, .assign (.const (.int .i64 0)), none⟩])) (.keep [2, 3])) .ret)))
attribute [go_sem ↓] c_sha_Sum
def h_sha_Sum : List Hint := [⟨[], [0, 2], []⟩, ⟨[], [0, 2, 6], []⟩, ⟨[], [2, 3], []⟩, ⟨[], [2, 3], []⟩]
theorem b_sha_Sum : Body Tryd.prog 14 [] h_sha_Sum c_sha_Sum 12 [.cell 2 26, .tmp 3] := body_of Tryd.func14 (by kernel_rfl) (by kernel_rfl) (by kernel_rfl) (by kernel_rfl)
def c_ref08_Sum : C := (.seq (.seq (.reg ([⟨some 2, .alloc 26, none⟩, ⟨some 3, .assign (.const (.int .i64 0)), none⟩])) (.keep [0, 2])) (.seq (.seq (.seq (.reg ([⟨some 4, .move (.tmp 0), none⟩, ⟨some 5, .call { callee := .builtin .len, args := #[(.tmp 4)], argTypes := #[22] }, none⟩, ⟨some 6, .binOp .gtr 3 (.tmp 5) (.const (.int .i64 1000000)) 3, none⟩])) (.keep [0, 2, 6])) (.cond (.tmp 6) (.seq (.seq (.reg ([⟨some 7, .build 26 #[], none⟩, ⟨none, .store 26 (.tmp 2) (.tmp 7), none⟩, ⟨some 3, .assign (.const (.int .i64 4)), none⟩])) (.keep [2, 3])) .ret) .skip)) (.seq (.seq (.reg ([⟨some 8, .move (.tmp 0), none⟩, ⟨some 9, .call { callee := .value (.func 56), args := #[(.tmp 8)], argTypes := #[22] }, none⟩, ⟨none, .store 26 (.tmp 2) (.tmp 9), none⟩, ⟨some 3, .assign (.const (.int .i64 0)), none⟩])) (.keep [2, 3])) .ret)))
attribute [go_sem ↓] c_ref08_Sum
def h_ref08_Sum : List Hint := [⟨[], [0, 2], []⟩, ⟨[], [0, 2, 6], []⟩, ⟨[], [2, 3], []⟩, ⟨[], [2, 3], []⟩]
theorem b_ref08_Sum : Body Tryd.prog 15 [] h_ref08_Sum c_ref08_Sum 10 [.cell 2 26, .tmp 3] := body_of Tryd.func15 (by kernel_rfl) (by kernel_rfl) (by kernel_rfl) (by kernel_rfl)
def c_sha_Start : C := (.seq (.seq (.reg ([⟨some 0, .alloc 44, none⟩])) (.keep [0])) (.seq (.seq (.reg ([⟨some 1, .load 24 (.global 0), none⟩, ⟨some 2, .build 44 #[(0, (.tmp 1))], none⟩, ⟨none, .store 44 (.tmp 0) (.tmp 2), none⟩])) (.keep [0])) .ret))
attribute [go_sem ↓] c_sha_Start
def h_sha_Start : List Hint := [⟨[], [0], []⟩, ⟨[], [0], []⟩]
theorem b_sha_Start : Body Tryd.prog 22 [] h_sha_Start c_sha_Start 3 [.cell 0 44] := body_of Tryd.func22 (by kernel_rfl) (by kernel_rfl) (by kernel_rfl) (by kernel_rfl)
def c_sha_finish : C := (.seq (.seq (.reg ([⟨some 1, .box 44 (.tmp 0), none⟩, ⟨some 2, .alloc 26, none⟩])) (.keep [1, 2])) (.seq (.seq (.draw ([⟨⟨some 6, .load 44 (.tmp 1), none⟩, []⟩, ⟨⟨some 7, .fieldAddr 44 (.tmp 1) 2, none⟩, [0]⟩, ⟨⟨some 8, .load 3 (.tmp 7), none⟩, [0]⟩, ⟨⟨some 9, .call { callee := .value (.func 57), args := #[(.tmp 8)], argTypes := #[3] }, none⟩, [0]⟩, ⟨⟨some 10, .call { callee := .value (.func 55), args := #[(.tmp 6), (.tmp 9)], argTypes := #[44, 22] }, none⟩, []⟩, ⟨⟨none, .store 44 (.tmp 1) (.tmp 10), none⟩, []⟩])) (.keep [1, 2])) (.seq (.seq (.seq (.reg ([⟨some 11, .fieldAddr 44 (.tmp 1) 0, none⟩, ⟨some 12, .load 24 (.tmp 11), none⟩, ⟨some 13, .move (.const (.int .i64 0)), none⟩])) (.keep [2, 12, 13])) (.block 0 (.loop [] [2, 12, 13] (.seq (.seq (.reg ([⟨some 14, .binOp .lss 3 (.tmp 13) (.const (.int .i64 8)) 3, none⟩])) (.keep [2, 12, 13, 14])) (.seq (.cond (.tmp 14) .skip (.exit 0)) (.seq (.block 1 (.seq (.seq (.reg ([⟨some 15, .move (.tmp 13), none⟩, ⟨some 16, .index 24 (.tmp 12) (.tmp 13), none⟩, ⟨some 3, .assign (.tmp 15), none⟩, ⟨some 4, .assign (.tmp 16), none⟩])) (.keep [2, 3, 4, 12, 13])) (.seq (.seq (.reg ([⟨some 17, .move (.const (.int .i64 0)), none⟩])) (.keep [2, 3, 4, 12, 13, 17])) (.block 2 (.loop [] [2, 3, 4, 12, 13, 17] (.seq (.seq (.reg ([⟨some 18, .binOp .lss 3 (.tmp 17) (.const (.int .i64 4)) 3, none⟩])) (.keep [2, 3, 4, 12, 13, 17, 18])) (.seq (.cond (.tmp 18) .skip (.exit 2)) (.seq (.block 3 (.seq (.seq (.reg ([⟨some 19, .move (.tmp 17), none⟩, ⟨some 5, .assign (.tmp 19), none⟩])) (.keep [2, 3, 4, 5, 12, 13, 17])) (.seq (.reg ([⟨some 20, .move (.tmp 3), none⟩, ⟨some 21, .binOp .mul 3 (.const (.int .i64 4)) (.tmp 20) 3, none⟩, ⟨some 22, .move (.tmp 5), none⟩, ⟨some 23, .binOp .add 3 (.tmp 21) (.tmp 22) 3, none⟩, ⟨some 24, .move (.tmp 4), none⟩, ⟨some 25, .move (.tmp 5), none⟩, ⟨some 26, .binOp .mul 3 (.const (.int .i64 8)) (.tmp 25) 3, none⟩, ⟨some 27, .binOp .sub 3 (.const (.int .i64 24)) (.tmp 26) 3, none⟩, ⟨some 28, .binOp .shr 23 (.tmp 24) (.tmp 27) 3, none⟩, ⟨some 29, .convert 23 5 (.tmp 28), none⟩, ⟨some 30, .indexAddr 26 (.tmp 2) (.tmp 23), none⟩, ⟨none, .store 5 (.tmp 30) (.tmp 29), none⟩])) (.keep [2, 3, 4, 12, 13, 17])))) (.seq (.reg ([⟨some 31, .binOp .add 3 (.tmp 17) (.const (.int .i64 1)) 3, none⟩, ⟨some 17, .move (.tmp 31), none⟩])) (.keep [2, 3, 4, 12, 13, 17])))))))))) (.seq (.reg ([⟨some 32, .binOp .add 3 (.tmp 13) (.const (.int .i64 1)) 3, none⟩, ⟨some 13, .move (.tmp 32), none⟩])) (.keep [2, 12, 13])))))))) (.seq (.seq (.reg ([⟨some 33, .load 26 (.tmp 2), none⟩, ⟨none, .store 26 (.tmp 2) (.tmp 33), none⟩])) (.keep [2])) .ret))))
attribute [go_sem ↓] c_sha_finish
def h_sha_finish : List Hint := [⟨[], [1, 2], []⟩, ⟨[], [1, 2], []⟩, ⟨[], [2, 12, 13], []⟩, ⟨[], [2, 12, 13], []⟩, ⟨[], [2, 12, 13, 14], []⟩, ⟨[], [2, 3, 4, 12, 13], []⟩, ⟨[], [2, 3, 4, 12, 13, 17], []⟩, ⟨[], [2, 3, 4, 12, 13, 17], []⟩, ⟨[], [2, 3, 4, 12, 13, 17, 18], []⟩, ⟨[], [2, 3, 4, 5, 12, 13, 17], []⟩, ⟨[], [2, 3, 4, 12, 13, 17], []⟩, ⟨[], [2, 3, 4, 12, 13, 17], []⟩, ⟨[], [2, 12, 13], []⟩, ⟨[], [2], []⟩]
theorem b_sha_finish : Body Tryd.prog 54 [] h_sha_finish c_sha_finish 34 [.cell 2 26] := body_of Tryd.func54 (by kernel_rfl) (by kernel_rfl) (by kernel_rfl) (by kernel_rfl)
def c_sha_write : C := (.seq (.seq (.reg ([⟨some 2, .box 44 (.tmp 0), none⟩, ⟨some 4, .alloc 44, none⟩])) (.keep [1, 2, 4])) (.seq (.seq (.reg ([⟨some 6, .fieldAddr 44 (.tmp 2) 2, none⟩, ⟨some 7, .load 3 (.tmp 6), none⟩, ⟨some 8, .move (.tmp 1), none⟩, ⟨some 9, .call { callee := .builtin .len, args := #[(.tmp 8)], argTypes := #[22] }, none⟩, ⟨some 10, .binOp .add 3 (.tmp 7) (.tmp 9) 3, none⟩, ⟨some 11, .fieldAddr 44 (.tmp 2) 2, none⟩, ⟨none, .store 3 (.tmp 11) (.tmp 10), none⟩])) (.keep [1, 2, 4])) (.seq (.seq (.reg ([⟨some 12, .fieldAddr 44 (.tmp 2) 1, none⟩, ⟨some 13, .load 22 (.tmp 12), none⟩, ⟨some 14, .move (.tmp 1), none⟩, ⟨some 15, .buildSlice 54 2 #[(0, (.tmp 13)), (1, (.tmp 14))], none⟩, ⟨some 16, .call { callee := .value (.func 68), args := #[(.tmp 15)], argTypes := #[54] }, none⟩, ⟨some 5, .assign (.tmp 16), none⟩])) (.keep [2, 4, 5])) (.seq (.block 0 (.loop [(5, 0)] [2, 4, 5] (.seq (.seq (.seq (.reg ([⟨some 17, .move (.tmp 5), none⟩, ⟨some 18, .call { callee := .builtin .len, args := #[(.tmp 17)], argTypes := #[22] }, none⟩, ⟨some 19, .binOp .geq 3 (.tmp 18) (.const (.int .i64 64)) 3, none⟩])) (.keep [2, 4, 5, 19])) (.cond (.tmp 19) .skip (.exit 0))) (.seq (.block 1 (.seq (.draw ([⟨⟨some 22, .fieldAddr 44 (.tmp 2) 0, none⟩, []⟩, ⟨⟨some 23, .load 24 (.tmp 22), none⟩, []⟩, ⟨⟨some 24, .move (.tmp 5), none⟩, [0, 1]⟩, ⟨⟨some 25, .slice 22 (.tmp 24) none (some (.const (.int .i64 64))) none, none⟩, [0, 1]⟩, ⟨⟨some 26, .call { callee := .value (.func 59), args := #[(.tmp 23), (.tmp 25)], argTypes := #[24, 22] }, none⟩, []⟩, ⟨⟨some 27, .fieldAddr 44 (.tmp 2) 0, none⟩, []⟩, ⟨⟨none, .store 24 (.tmp 27) (.tmp 26), none⟩, []⟩])) (.keep [2, 4, 5]))) (.seq (.reg ([⟨some 20, .move (.tmp 5), none⟩, ⟨some 21, .slice 22 (.tmp 20) (some (.const (.int .i64 64))) none none, none⟩, ⟨some 5, .assign (.tmp 21), none⟩])) (.keep [2, 4, 5])))))) (.seq (.seq (.reg ([⟨some 28, .move (.tmp 5), none⟩, ⟨some 29, .call { callee := .value (.func 63), args := #[(.tmp 28)], argTypes := #[22] }, none⟩, ⟨some 30, .fieldAddr 44 (.tmp 2) 1, none⟩, ⟨none, .store 22 (.tmp 30) (.tmp 29), none⟩])) (.keep [2, 4])) (.seq (.seq (.reg ([⟨some 31, .load 44 (.tmp 2), none⟩, ⟨none, .store 44 (.tmp 4) (.tmp 31), none⟩])) (.keep [4])) .ret))))))
attribute [go_sem ↓] c_sha_write
def h_sha_write : List Hint := [⟨[], [1, 2, 4], []⟩, ⟨[], [1, 2, 4], []⟩, ⟨[], [2, 4, 5], []⟩, ⟨[(5, 0)], [2, 4, 5], []⟩, ⟨[], [2, 4, 5, 19], []⟩, ⟨[], [2, 4, 5], []⟩, ⟨[], [2, 4, 5], []⟩, ⟨[], [2, 4], []⟩, ⟨[], [4], []⟩]
theorem b_sha_write : Body Tryd.prog 55 [] h_sha_write c_sha_write 32 [.cell 4 44] := body_of Tryd.func55 (by kernel_rfl) (by kernel_rfl) (by kernel_rfl) (by kernel_rfl)
def c_ref08_Of : C := (.seq (.seq (.reg ([⟨some 2, .alloc 26, none⟩])) (.keep [0, 2])) (.seq (.seq (.reg ([⟨some 3, .call { callee := .value (.func 71), args := #[], argTypes := #[] }, none⟩, ⟨some 4, .buildSlice 22 0 #[], none⟩, ⟨some 5, .move (.tmp 0), none⟩, ⟨some 6, .call { callee := .builtin .append, args := #[(.tmp 4), (.tmp 5)], argTypes := #[22, 22] }, none⟩, ⟨some 7, .move (.tmp 0), none⟩, ⟨some 8, .call { callee := .builtin .len, args := #[(.tmp 7)], argTypes := #[22] }, none⟩, ⟨some 9, .call { callee := .value (.func 58), args := #[(.tmp 8)], argTypes := #[3] }, none⟩, ⟨some 10, .call { callee := .builtin .append, args := #[(.tmp 6), (.tmp 9)], argTypes := #[22, 22] }, none⟩, ⟨some 11, .call { callee := .value (.func 70), args := #[(.tmp 3), (.tmp 10)], argTypes := #[24, 22] }, none⟩, ⟨some 12, .call { callee := .value (.func 69), args := #[(.tmp 11)], argTypes := #[24] }, none⟩, ⟨none, .store 26 (.tmp 2) (.tmp 12), none⟩])) (.keep [2])) .ret))
attribute [go_sem ↓] c_ref08_Of
def h_ref08_Of : List Hint := [⟨[], [0, 2], []⟩, ⟨[], [2], []⟩]
theorem b_ref08_Of : Body Tryd.prog 56 [] h_ref08_Of c_ref08_Of 13 [.cell 2 26] := body_of Tryd.func56 (by kernel_rfl) (by kernel_rfl) (by kernel_rfl) (by kernel_rfl)
def c_sha_pad : C := (.seq (.seq (.reg ([⟨some 2, .assign (.const (.slice none 0 0)), none⟩])) (.keep [0])) (.seq (.seq (.reg ([⟨some 6, .move (.tmp 0), none⟩, ⟨some 7, .binOp .rem 3 (.tmp 6) (.const (.int .i64 64)) 3, none⟩, ⟨some 8, .binOp .sub 3 (.const (.int .i64 119)) (.tmp 7) 3, none⟩, ⟨some 9, .binOp .rem 3 (.tmp 8) (.const (.int .i64 64)) 3, none⟩, ⟨some 3, .assign (.tmp 9), none⟩])) (.keep [0, 3])) (.seq (.seq (.reg ([⟨some 10, .buildSlice 22 1 #[(0, (.const (.int .u8 128)))], none⟩, ⟨some 11, .move (.tmp 3), none⟩, ⟨some 12, .call { callee := .builtin .append, args := #[(.tmp 10), (.tmp 11)], argTypes := #[22, 3] }, none⟩, ⟨some 4, .assign (.tmp 12), none⟩])) (.keep [0, 4])) (.seq (.seq (.seq (.reg ([⟨some 13, .move (.const (.int .i64 0)), none⟩])) (.keep [0, 4, 13])) (.block 0 (.loop [(4, 1)] [0, 4, 13] (.seq (.seq (.reg ([⟨some 14, .binOp .lss 3 (.tmp 13) (.const (.int .i64 8)) 3, none⟩])) (.keep [0, 4, 13, 14])) (.seq (.cond (.tmp 14) .skip (.exit 0)) (.seq (.block 1 (.seq (.seq (.reg ([⟨some 15, .move (.tmp 13), none⟩, ⟨some 5, .assign (.tmp 15), none⟩])) (.keep [0, 4, 5, 13])) (.seq (.reg ([⟨some 16, .move (.tmp 4), none⟩, ⟨some 17, .move (.tmp 0), none⟩, ⟨some 18, .convert 3 116 (.tmp 17), none⟩, ⟨some 19, .binOp .shl 116 (.tmp 18) (.const (.int .u64 3)) 112, none⟩, ⟨some 20, .move (.tmp 5), none⟩, ⟨some 21, .binOp .mul 3 (.const (.int .i64 8)) (.tmp 20) 3, none⟩, ⟨some 22, .binOp .sub 3 (.const (.int .i64 56)) (.tmp 21) 3, none⟩, ⟨some 23, .binOp .shr 116 (.tmp 19) (.tmp 22) 3, none⟩, ⟨some 24, .convert 116 5 (.tmp 23), none⟩, ⟨some 25, .buildSlice 22 1 #[(0, (.tmp 24))], none⟩, ⟨some 26, .call { callee := .builtin .append, args := #[(.tmp 16), (.tmp 25)], argTypes := #[22, 22] }, none⟩, ⟨some 4, .assign (.tmp 26), none⟩])) (.keep [0, 4, 13])))) (.seq (.reg ([⟨some 27, .binOp .add 3 (.tmp 13) (.const (.int .i64 1)) 3, none⟩, ⟨some 13, .move (.tmp 27), none⟩])) (.keep [0, 4, 13])))))))) (.seq (.seq (.reg ([⟨some 28, .move (.tmp 4), none⟩, ⟨some 2, .assign (.tmp 28), none⟩])) (.keep [2])) .ret)))))
attribute [go_sem ↓] c_sha_pad
def h_sha_pad : List Hint := [⟨[], [0], []⟩, ⟨[], [0, 3], []⟩, ⟨[], [0, 4], []⟩, ⟨[], [0, 4, 13], []⟩, ⟨[(4, 1)], [0, 4, 13], []⟩, ⟨[], [0, 4, 13, 14], []⟩, ⟨[], [0, 4, 5, 13], []⟩, ⟨[], [0, 4, 13], []⟩, ⟨[], [0, 4, 13], []⟩, ⟨[], [2], []⟩]
theorem b_sha_pad : Body Tryd.prog 57 [] h_sha_pad c_sha_pad 29 [.tmp 2] := body_of Tryd.func57 (by kernel_rfl) (by kernel_rfl) (by kernel_rfl) (by kernel_rfl)
def c_ref08_Padding : C := (.seq (.seq (.reg ([⟨some 2, .assign (.const (.slice none 0 0)), none⟩])) (.keep [0])) (.seq (.seq (.reg ([⟨some 5, .buildSlice 22 1 #[(0, (.const (.int .u8 128)))], none⟩, ⟨some 3, .assign (.tmp 5), none⟩])) (.keep [0, 3])) (.seq (.block 0 (.loop [(3, 1)] [0, 3] (.seq (.seq (.seq (.reg ([⟨some 6, .move (.tmp 0), none⟩, ⟨some 7, .move (.tmp 3), none⟩, ⟨some 8, .call { callee := .builtin .len, args := #[(.tmp 7)], argTypes := #[22] }, none⟩, ⟨some 9, .binOp .add 3 (.tmp 6) (.tmp 8) 3, none⟩, ⟨some 10, .binOp .add 3 (.tmp 9) (.const (.int .i64 8)) 3, none⟩, ⟨some 11, .binOp .rem 3 (.tmp 10) (.const (.int .i64 64)) 3, none⟩, ⟨some 12, .binOp .neq 3 (.tmp 11) (.const (.int .i64 0)) 3, none⟩])) (.keep [0, 3, 12])) (.cond (.tmp 12) .skip (.exit 0))) (.block 1 (.seq (.reg ([⟨some 13, .move (.tmp 3), none⟩, ⟨some 14, .buildSlice 22 1 #[(0, (.const (.int .u8 0)))], none⟩, ⟨some 15, .call { callee := .builtin .append, args := #[(.tmp 13), (.tmp 14)], argTypes := #[22, 22] }, none⟩, ⟨some 3, .assign (.tmp 15), none⟩])) (.keep [0, 3])))))) (.seq (.seq (.seq (.reg ([⟨some 4, .assign (.const (.int .i64 7)), none⟩])) (.keep [0, 3, 4])) (.block 2 (.loop [(3, 1)] [0, 3, 4] (.seq (.seq (.seq (.reg ([⟨some 16, .move (.tmp 4), none⟩, ⟨some 17, .binOp .geq 3 (.tmp 16) (.const (.int .i64 0)) 3, none⟩])) (.keep [0, 3, 4, 17])) (.cond (.tmp 17) .skip (.exit 2))) (.seq (.block 3 (.seq (.reg ([⟨some 20, .move (.tmp 3), none⟩, ⟨some 21, .move (.tmp 0), none⟩, ⟨some 22, .convert 3 116 (.tmp 21), none⟩, ⟨some 23, .binOp .mul 116 (.const (.int .u64 8)) (.tmp 22) 116, none⟩, ⟨some 24, .move (.tmp 4), none⟩, ⟨some 25, .binOp .mul 3 (.const (.int .i64 8)) (.tmp 24) 3, none⟩, ⟨some 26, .binOp .shr 116 (.tmp 23) (.tmp 25) 3, none⟩, ⟨some 27, .convert 116 5 (.tmp 26), none⟩, ⟨some 28, .buildSlice 22 1 #[(0, (.tmp 27))], none⟩, ⟨some 29, .call { callee := .builtin .append, args := #[(.tmp 20), (.tmp 28)], argTypes := #[22, 22] }, none⟩, ⟨some 3, .assign (.tmp 29), none⟩])) (.keep [0, 3, 4]))) (.seq (.reg ([⟨some 18, .move (.tmp 4), none⟩, ⟨some 19, .binOp .sub 3 (.tmp 18) (.const (.int .i64 1)) 3, none⟩, ⟨some 4, .assign (.tmp 19), none⟩])) (.keep [0, 3, 4]))))))) (.seq (.seq (.reg ([⟨some 30, .move (.tmp 3), none⟩, ⟨some 2, .assign (.tmp 30), none⟩])) (.keep [2])) .ret)))))
attribute [go_sem ↓] c_ref08_Padding
def h_ref08_Padding : List Hint := [⟨[], [0], []⟩, ⟨[], [0, 3], []⟩, ⟨[(3, 1)], [0, 3], []⟩, ⟨[], [0, 3, 12], []⟩, ⟨[], [0, 3], []⟩, ⟨[], [0, 3, 4], []⟩, ⟨[(3, 1)], [0, 3, 4], []⟩, ⟨[], [0, 3, 4, 17], []⟩, ⟨[], [0, 3, 4], []⟩, ⟨[], [0, 3, 4], []⟩, ⟨[], [2], []⟩]
theorem b_ref08_Padding : Body Tryd.prog 58 [] h_ref08_Padding c_ref08_Padding 31 [.tmp 2] := body_of Tryd.func58 (by kernel_rfl) (by kernel_rfl) (by kernel_rfl) (by kernel_rfl)
def kc0 : C := (.seq (.reg ([⟨some 34, .move (.tmp 6), none⟩, ⟨some 35, .move (.tmp 6), none⟩, ⟨some 36, .indexAddr 117 (.tmp 5) (.tmp 35), none⟩, ⟨some 37, .load 23 (.tmp 36), none⟩, ⟨some 38, .binOp .shl 23 (.tmp 37) (.const (.int .u64 8)) 112, none⟩, ⟨some 39, .move (.tmp 8), none⟩, ⟨some 40, .convert 5 23 (.tmp 39), none⟩, ⟨some 41, .binOp .or 23 (.tmp 38) (.tmp 40) 23, none⟩, ⟨some 42, .indexAddr 117 (.tmp 5) (.tmp 34), none⟩, ⟨none, .store 23 (.tmp 42) (.tmp 41), none⟩])) (.keep [1, 2, 4, 5, 6, 19, 28, 29, 30]))
@[go_sem ↓] def uq0 := @unC _ _ kc0.eq_1
def kc1 : C := (.seq (.reg ([⟨some 43, .binOp .add 3 (.tmp 30) (.const (.int .i64 1)) 3, none⟩, ⟨some 30, .move (.tmp 43), none⟩])) (.keep [1, 2, 4, 5, 6, 19, 28, 29, 30]))
@[go_sem ↓] def uq1 := @unC _ _ kc1.eq_1
def kc2 : C := (.seq (.block 3 (.seq (.seq (.reg ([⟨some 32, .indexAddr 22 (.tmp 28) (.tmp 30), none⟩, ⟨some 33, .load 5 (.tmp 32), none⟩, ⟨some 8, .assign (.tmp 33), none⟩])) (.keep [1, 2, 4, 5, 6, 8, 19, 28, 29, 30])) kc0)) kc1)
@[go_sem ↓] def uq2 := @unC _ _ kc2.eq_1
def kc3 : C := (.seq (.cond (.tmp 31) .skip (.exit 2)) kc2)
@[go_sem ↓] def uq3 := @unC _ _ kc3.eq_1
def kc4 : C := (.seq (.seq (.reg ([⟨some 31, .binOp .lss 3 (.tmp 30) (.tmp 29) 3, none⟩])) (.keep [1, 2, 4, 5, 6, 19, 28, 29, 30, 31])) kc3)
@[go_sem ↓] def uq4 := @unC _ _ kc4.eq_1
def kc5 : C := (.block 2 (.loop [] [1, 2, 4, 5, 6, 19, 28, 29, 30] kc4))
@[go_sem ↓] def uq5 := @unC _ _ kc5.eq_1
def kc6 : C := (.seq (.seq (.reg ([⟨some 22, .move (.tmp 1), none⟩, ⟨some 23, .move (.tmp 6), none⟩, ⟨some 24, .binOp .mul 3 (.const (.int .i64 4)) (.tmp 23) 3, none⟩, ⟨some 25, .move (.tmp 6), none⟩, ⟨some 26, .binOp .mul 3 (.const (.int .i64 4)) (.tmp 25) 3, none⟩, ⟨some 27, .binOp .add 3 (.tmp 26) (.const (.int .i64 4)) 3, none⟩, ⟨some 28, .slice 22 (.tmp 22) (some (.tmp 24)) (some (.tmp 27)) none, none⟩, ⟨some 29, .call { callee := .builtin .len, args := #[(.tmp 28)], argTypes := #[22] }, none⟩, ⟨some 30, .move (.const (.int .i64 0)), none⟩])) (.keep [1, 2, 4, 5, 6, 19, 28, 29, 30])) kc5)
@[go_sem ↓] def uq6 := @unC _ _ kc6.eq_1
def kc7 : C := (.seq (.reg ([⟨some 44, .binOp .add 3 (.tmp 19) (.const (.int .i64 1)) 3, none⟩, ⟨some 19, .move (.tmp 44), none⟩])) (.keep [1, 2, 4, 5, 19]))
@[go_sem ↓] def uq7 := @unC _ _ kc7.eq_1
def kc8 : C := (.seq (.block 1 (.seq (.seq (.reg ([⟨some 21, .move (.tmp 19), none⟩, ⟨some 6, .assign (.tmp 21), none⟩])) (.keep [1, 2, 4, 5, 6, 19])) kc6)) kc7)
@[go_sem ↓] def uq8 := @unC _ _ kc8.eq_1
def kc9 : C := (.seq (.cond (.tmp 20) .skip (.exit 0)) kc8)
@[go_sem ↓] def uq9 := @unC _ _ kc9.eq_1
def kc10 : C := (.seq (.seq (.reg ([⟨some 20, .binOp .lss 3 (.tmp 19) (.const (.int .i64 16)) 3, none⟩])) (.keep [1, 2, 4, 5, 19, 20])) kc9)
@[go_sem ↓] def uq10 := @unC _ _ kc10.eq_1
def kc11 : C := (.block 0 (.loop [] [1, 2, 4, 5, 19] kc10))
@[go_sem ↓] def uq11 := @unC _ _ kc11.eq_1
def kc12 : C := (.cond (.tmp 46) .skip (.exit 4))
@[go_sem ↓] def uq12 := @unC _ _ kc12.eq_1
def d_sha_take_13 : List D := [⟨⟨some 77, .move (.tmp 11), none⟩, [0, 1, 2, 3, 4, 5, 6, 7, 8, 9, 10, 11, 12, 13, 14, 15, 16, 17, 18, 19]⟩, ⟨⟨some 78, .binOp .shr 23 (.tmp 77) (.const (.int .u64 10)) 112, none⟩, [0, 1, 2, 3, 4, 5, 6, 7, 8, 9, 10, 11, 12, 13, 14, 15, 16, 17, 18, 19]⟩, ⟨⟨some 79, .binOp .xor 23 (.tmp 76) (.tmp 78) 23, none⟩, [0, 1, 2, 3, 4, 5, 6, 7, 8, 9, 13, 14, 15, 16]⟩, ⟨⟨some 80, .binOp .add 23 (.tmp 73) (.tmp 79) 23, none⟩, [0]⟩, ⟨⟨some 81, .indexAddr 117 (.tmp 5) (.tmp 57), none⟩, []⟩, ⟨⟨none, .store 23 (.tmp 81) (.tmp 80), none⟩, []⟩]
@[go_sem ↓] def uq13 := @unD _ _ d_sha_take_13.eq_1
def d_sha_take_14 : List D := ⟨⟨some 70, .move (.tmp 10), none⟩, [0, 1, 2, 3, 4, 5, 6, 7, 8, 9, 10, 11, 12]⟩ :: ⟨⟨some 71, .binOp .shr 23 (.tmp 70) (.const (.int .u64 3)) 112, none⟩, [0, 1, 2, 3, 4, 5, 6, 7, 8, 9, 10, 11, 12]⟩ :: ⟨⟨some 72, .binOp .xor 23 (.tmp 69) (.tmp 71) 23, none⟩, [0, 1, 2, 3, 4, 5, 6, 7, 8, 9]⟩ :: ⟨⟨some 73, .binOp .add 23 (.tmp 66) (.tmp 72) 23, none⟩, [0]⟩ :: ⟨⟨some 74, .move (.tmp 11), none⟩, [0, 1, 2, 3, 4, 5, 6, 7, 8, 9, 10, 11, 12, 13, 14, 15, 16]⟩ :: ⟨⟨some 75, .buildSlice 124 2 #[(0, (.const (.int .i64 17))), (1, (.const (.int .i64 19)))], none⟩, [0, 1, 2, 3, 4, 5, 6, 7, 8, 9, 10, 11, 12, 13, 14, 15, 16, 17]⟩ :: ⟨⟨some 76, .call { callee := .value (.func 72), args := #[(.tmp 74), (.tmp 75)], argTypes := #[23, 124] }, none⟩, [0, 1, 2, 3, 4, 5, 6, 7, 8, 9, 13, 14, 15, 16]⟩ :: d_sha_take_13
@[go_sem ↓] def uq14 := @unD _ _ d_sha_take_14.eq_1
def kc13 : C := (.seq (.draw (⟨⟨some 57, .move (.tmp 9), none⟩, []⟩ :: ⟨⟨some 58, .move (.tmp 9), none⟩, [0]⟩ :: ⟨⟨some 59, .binOp .sub 3 (.tmp 58) (.const (.int .i64 16)) 3, none⟩, [0]⟩ :: ⟨⟨some 60, .indexAddr 117 (.tmp 5) (.tmp 59), none⟩, [0]⟩ :: ⟨⟨some 61, .load 23 (.tmp 60), none⟩, [0]⟩ :: ⟨⟨some 62, .move (.tmp 9), none⟩, [0, 1, 2, 3, 4]⟩ :: ⟨⟨some 63, .binOp .sub 3 (.tmp 62) (.const (.int .i64 7)) 3, none⟩, [0, 1, 2, 3, 4]⟩ :: ⟨⟨some 64, .indexAddr 117 (.tmp 5) (.tmp 63), none⟩, [0, 1, 2, 3, 4]⟩ :: ⟨⟨some 65, .load 23 (.tmp 64), none⟩, [0, 1, 2, 3, 4]⟩ :: ⟨⟨some 66, .binOp .add 23 (.tmp 61) (.tmp 65) 23, none⟩, [0]⟩ :: ⟨⟨some 67, .move (.tmp 10), none⟩, [0, 1, 2, 3, 4, 5, 6, 7, 8, 9]⟩ :: ⟨⟨some 68, .buildSlice 124 2 #[(0, (.const (.int .i64 7))), (1, (.const (.int .i64 18)))], none⟩, [0, 1, 2, 3, 4, 5, 6, 7, 8, 9, 10]⟩ :: ⟨⟨some 69, .call { callee := .value (.func 72), args := #[(.tmp 67), (.tmp 68)], argTypes := #[23, 124] }, none⟩, [0, 1, 2, 3, 4, 5, 6, 7, 8, 9]⟩ :: d_sha_take_14)) (.keep [2, 4, 5, 9]))
@[go_sem ↓] def uq15 := @unC _ _ kc13.eq_1
def kc14 : C := (.seq (.reg ([⟨some 47, .move (.tmp 9), none⟩, ⟨some 48, .binOp .add 3 (.tmp 47) (.const (.int .i64 1)) 3, none⟩, ⟨some 9, .assign (.tmp 48), none⟩])) (.keep [2, 4, 5, 9]))
@[go_sem ↓] def uq16 := @unC _ _ kc14.eq_1
def kc15 : C := (.seq (.block 5 (.seq (.seq (.draw ([⟨⟨some 49, .move (.tmp 9), none⟩, []⟩, ⟨⟨some 50, .binOp .sub 3 (.tmp 49) (.const (.int .i64 15)) 3, none⟩, []⟩, ⟨⟨some 51, .indexAddr 117 (.tmp 5) (.tmp 50), none⟩, []⟩, ⟨⟨some 52, .load 23 (.tmp 51), none⟩, []⟩, ⟨⟨some 53, .move (.tmp 9), none⟩, [0, 1, 2, 3]⟩, ⟨⟨some 54, .binOp .sub 3 (.tmp 53) (.const (.int .i64 2)) 3, none⟩, [0, 1, 2, 3]⟩, ⟨⟨some 55, .indexAddr 117 (.tmp 5) (.tmp 54), none⟩, [0, 1, 2, 3]⟩, ⟨⟨some 56, .load 23 (.tmp 55), none⟩, [0, 1, 2, 3]⟩, ⟨⟨some 10, .assign (.tmp 52), none⟩, [4, 5, 6, 7]⟩, ⟨⟨some 11, .assign (.tmp 56), none⟩, []⟩])) (.keep [2, 4, 5, 9, 10, 11])) kc13)) kc14)
@[go_sem ↓] def uq17 := @unC _ _ kc15.eq_1
def kc16 : C := (.seq (.seq (.seq (.reg ([⟨some 45, .move (.tmp 9), none⟩, ⟨some 46, .binOp .lss 3 (.tmp 45) (.const (.int .i64 64)) 3, none⟩])) (.keep [2, 4, 5, 9, 46])) kc12) kc15)
@[go_sem ↓] def uq18 := @unC _ _ kc16.eq_1
def kc17 : C := (.block 4 (.loop [] [2, 4, 5, 9] kc16))
@[go_sem ↓] def uq19 := @unC _ _ kc17.eq_1
def d_sha_take_20 : List D := [⟨⟨some 95, .binOp .add 23 (.tmp 91) (.tmp 94) 23, none⟩, []⟩, ⟨⟨some 96, .move (.tmp 15), none⟩, [0, 1, 2, 3, 4, 5]⟩, ⟨⟨some 97, .indexAddr 24 (.tmp 12) (.const (.int .i64 5)), none⟩, [0, 1, 2, 3, 4, 5, 6]⟩, ⟨⟨some 98, .load 23 (.tmp 97), none⟩, [0, 1, 2, 3, 4, 5, 6]⟩, ⟨⟨some 99, .binOp .and 23 (.tmp 96) (.tmp 98) 23, none⟩, [0, 1, 2, 3, 4, 5]⟩, ⟨⟨some 100, .move (.tmp 15), none⟩, [0, 1, 2, 3, 4, 5, 6, 7, 8, 9]⟩, ⟨⟨some 101, .unOp .xor 23 (.tmp 100), none⟩, [0, 1, 2, 3, 4, 5, 6, 7, 8, 9]⟩, ⟨⟨some 102, .indexAddr 24 (.tmp 12) (.const (.int .i64 6)), none⟩, [0, 1, 2, 3, 4, 5, 6, 7, 8, 9, 10, 11]⟩, ⟨⟨some 103, .load 23 (.tmp 102), none⟩, [0, 1, 2, 3, 4, 5, 6, 7, 8, 9, 10, 11]⟩, ⟨⟨some 104, .binOp .and 23 (.tmp 101) (.tmp 103) 23, none⟩, [0, 1, 2, 3, 4, 5, 6, 7, 8, 9]⟩, ⟨⟨some 105, .binOp .xor 23 (.tmp 99) (.tmp 104) 23, none⟩, [0, 1, 2, 3, 4, 5]⟩, ⟨⟨some 106, .binOp .add 23 (.tmp 95) (.tmp 105) 23, none⟩, []⟩, ⟨⟨some 107, .move (.tmp 13), none⟩, [0, 1, 2, 3, 4, 5, 6, 7, 8, 9, 10, 11, 12, 13, 14, 15, 16]⟩, ⟨⟨some 108, .indexAddr 117 (.global 1) (.tmp 107), none⟩, [0, 1, 2, 3, 4, 5, 6, 7, 8, 9, 10, 11, 12, 13, 14, 15, 16]⟩, ⟨⟨some 109, .load 23 (.tmp 108), none⟩, [0, 1, 2, 3, 4, 5, 6, 7, 8, 9, 10, 11, 12, 13, 14, 15, 16]⟩, ⟨⟨some 110, .binOp .add 23 (.tmp 106) (.tmp 109) 23, none⟩, []⟩, ⟨⟨some 111, .move (.tmp 13), none⟩, [0, 1, 2, 3, 4, 5, 6, 7, 8, 9, 10, 11, 12, 13, 14, 15, 16, 17, 18, 19, 20]⟩, ⟨⟨some 112, .indexAddr 117 (.tmp 5) (.tmp 111), none⟩, [0, 1, 2, 3, 4, 5, 6, 7, 8, 9, 10, 11, 12, 13, 14, 15, 16, 17, 18, 19, 20]⟩, ⟨⟨some 113, .load 23 (.tmp 112), none⟩, [0, 1, 2, 3, 4, 5, 6, 7, 8, 9, 10, 11, 12, 13, 14, 15, 16, 17, 18, 19, 20]⟩, ⟨⟨some 114, .binOp .add 23 (.tmp 110) (.tmp 113) 23, none⟩, []⟩, ⟨⟨some 16, .assign (.tmp 114), none⟩, []⟩]
@[go_sem ↓] def uq20 := @unD _ _ d_sha_take_20.eq_1
def d_sha_take_21 : List D := [⟨⟨some 118, .move (.tmp 14), none⟩, [0, 1, 2]⟩, ⟨⟨some 119, .indexAddr 24 (.tmp 12) (.const (.int .i64 1)), none⟩, [0, 1, 2, 3]⟩, ⟨⟨some 120, .load 23 (.tmp 119), none⟩, [0, 1, 2, 3]⟩, ⟨⟨some 121, .binOp .and 23 (.tmp 118) (.tmp 120) 23, none⟩, [0, 1, 2]⟩, ⟨⟨some 122, .move (.tmp 14), none⟩, [0, 1, 2, 3, 4, 5, 6]⟩, ⟨⟨some 123, .indexAddr 24 (.tmp 12) (.const (.int .i64 2)), none⟩, [0, 1, 2, 3, 4, 5, 6, 7]⟩, ⟨⟨some 124, .load 23 (.tmp 123), none⟩, [0, 1, 2, 3, 4, 5, 6, 7]⟩, ⟨⟨some 125, .binOp .and 23 (.tmp 122) (.tmp 124) 23, none⟩, [0, 1, 2, 3, 4, 5, 6]⟩, ⟨⟨some 126, .binOp .xor 23 (.tmp 121) (.tmp 125) 23, none⟩, [0, 1, 2]⟩, ⟨⟨some 127, .indexAddr 24 (.tmp 12) (.const (.int .i64 1)), none⟩, [0, 1, 2, 3, 4, 5, 6, 7, 8, 9, 10, 11]⟩, ⟨⟨some 128, .load 23 (.tmp 127), none⟩, [0, 1, 2, 3, 4, 5, 6, 7, 8, 9, 10, 11]⟩, ⟨⟨some 129, .indexAddr 24 (.tmp 12) (.const (.int .i64 2)), none⟩, [0, 1, 2, 3, 4, 5, 6, 7, 8, 9, 10, 11, 12, 13]⟩, ⟨⟨some 130, .load 23 (.tmp 129), none⟩, [0, 1, 2, 3, 4, 5, 6, 7, 8, 9, 10, 11, 12, 13]⟩, ⟨⟨some 131, .binOp .and 23 (.tmp 128) (.tmp 130) 23, none⟩, [0, 1, 2, 3, 4, 5, 6, 7, 8, 9, 10, 11]⟩, ⟨⟨some 132, .binOp .xor 23 (.tmp 126) (.tmp 131) 23, none⟩, [0, 1, 2]⟩, ⟨⟨some 133, .binOp .add 23 (.tmp 117) (.tmp 132) 23, none⟩, []⟩, ⟨⟨some 17, .assign (.tmp 133), none⟩, []⟩]
@[go_sem ↓] def uq21 := @unD _ _ d_sha_take_21.eq_1
def kc18 : C := (.seq (.reg ([⟨some 137, .move (.tmp 16), none⟩, ⟨some 138, .move (.tmp 17), none⟩, ⟨some 139, .binOp .add 23 (.tmp 137) (.tmp 138) 23, none⟩, ⟨some 140, .indexAddr 24 (.tmp 12) (.const (.int .i64 4)), none⟩, ⟨some 141, .load 23 (.tmp 140), none⟩, ⟨some 142, .move (.tmp 16), none⟩, ⟨some 143, .binOp .add 23 (.tmp 141) (.tmp 142) 23, none⟩, ⟨some 144, .indexAddr 24 (.tmp 12) (.const (.int .i64 0)), none⟩, ⟨none, .store 23 (.tmp 144) (.tmp 139), none⟩, ⟨some 145, .indexAddr 24 (.tmp 12) (.const (.int .i64 4)), none⟩, ⟨none, .store 23 (.tmp 145) (.tmp 143), none⟩])) (.keep [2, 4, 5, 12, 83]))
@[go_sem ↓] def uq22 := @unC _ _ kc18.eq_1
def kc19 : C := (.seq (.seq (.draw ([⟨⟨some 134, .slice 24 (.tmp 12) (some (.const (.int .i64 1))) none none, none⟩, []⟩, ⟨⟨some 135, .slice 24 (.tmp 12) none (some (.const (.int .i64 7))) none, none⟩, [0]⟩, ⟨⟨some 136, .call { callee := .builtin .copy, args := #[(.tmp 134), (.tmp 135)], argTypes := #[119, 119] }, none⟩, []⟩])) (.keep [2, 4, 5, 12, 16, 17, 83])) kc18)
@[go_sem ↓] def uq23 := @unC _ _ kc19.eq_1
def kc20 : C := (.seq (.seq (.draw (⟨⟨some 115, .move (.tmp 14), none⟩, []⟩ :: ⟨⟨some 116, .buildSlice 124 3 #[(0, (.const (.int .i64 2))), (1, (.const (.int .i64 13))), (2, (.const (.int .i64 22)))], none⟩, [0]⟩ :: ⟨⟨some 117, .call { callee := .value (.func 72), args := #[(.tmp 115), (.tmp 116)], argTypes := #[23, 124] }, none⟩, []⟩ :: d_sha_take_21)) (.keep [2, 4, 5, 12, 16, 17, 83])) kc19)
@[go_sem ↓] def uq24 := @unC _ _ kc20.eq_1
def kc21 : C := (.seq (.seq (.draw (⟨⟨some 90, .indexAddr 24 (.tmp 12) (.const (.int .i64 7)), none⟩, []⟩ :: ⟨⟨some 91, .load 23 (.tmp 90), none⟩, []⟩ :: ⟨⟨some 92, .move (.tmp 15), none⟩, [0, 1]⟩ :: ⟨⟨some 93, .buildSlice 124 3 #[(0, (.const (.int .i64 6))), (1, (.const (.int .i64 11))), (2, (.const (.int .i64 25)))], none⟩, [0, 1, 2]⟩ :: ⟨⟨some 94, .call { callee := .value (.func 72), args := #[(.tmp 92), (.tmp 93)], argTypes := #[23, 124] }, none⟩, [0, 1]⟩ :: d_sha_take_20)) (.keep [2, 4, 5, 12, 14, 16, 83])) kc20)
@[go_sem ↓] def uq25 := @unC _ _ kc21.eq_1
def kc22 : C := (.seq (.seq (.draw ([⟨⟨some 86, .indexAddr 24 (.tmp 12) (.const (.int .i64 0)), none⟩, []⟩, ⟨⟨some 87, .load 23 (.tmp 86), none⟩, []⟩, ⟨⟨some 88, .indexAddr 24 (.tmp 12) (.const (.int .i64 4)), none⟩, [0, 1]⟩, ⟨⟨some 89, .load 23 (.tmp 88), none⟩, [0, 1]⟩, ⟨⟨some 14, .assign (.tmp 87), none⟩, [2, 3]⟩, ⟨⟨some 15, .assign (.tmp 89), none⟩, []⟩])) (.keep [2, 4, 5, 12, 13, 14, 15, 83])) kc21)
@[go_sem ↓] def uq26 := @unC _ _ kc22.eq_1
def kc23 : C := (.seq (.reg ([⟨some 146, .binOp .add 3 (.tmp 83) (.const (.int .i64 1)) 3, none⟩, ⟨some 83, .move (.tmp 146), none⟩])) (.keep [2, 4, 5, 12, 83]))
@[go_sem ↓] def uq27 := @unC _ _ kc23.eq_1
def kc24 : C := (.seq (.block 7 (.seq (.seq (.reg ([⟨some 85, .move (.tmp 83), none⟩, ⟨some 13, .assign (.tmp 85), none⟩])) (.keep [2, 4, 5, 12, 13, 83])) kc22)) kc23)
@[go_sem ↓] def uq28 := @unC _ _ kc24.eq_1
def kc25 : C := (.seq (.cond (.tmp 84) .skip (.exit 6)) kc24)
@[go_sem ↓] def uq29 := @unC _ _ kc25.eq_1
def kc26 : C := (.seq (.seq (.reg ([⟨some 84, .binOp .lss 3 (.tmp 83) (.const (.int .i64 64)) 3, none⟩])) (.keep [2, 4, 5, 12, 83, 84])) kc25)
@[go_sem ↓] def uq30 := @unC _ _ kc26.eq_1
def kc27 : C := (.block 6 (.loop [] [2, 4, 5, 12, 83] kc26))
@[go_sem ↓] def uq31 := @unC _ _ kc27.eq_1
def kc28 : C := (.seq (.draw ([⟨⟨some 150, .move (.tmp 18), none⟩, []⟩, ⟨⟨some 151, .indexAddr 24 (.tmp 2) (.tmp 150), none⟩, []⟩, ⟨⟨some 152, .load 23 (.tmp 151), none⟩, []⟩, ⟨⟨some 153, .move (.tmp 18), none⟩, [0, 1, 2]⟩, ⟨⟨some 154, .indexAddr 24 (.tmp 12) (.tmp 153), none⟩, [0, 1, 2]⟩, ⟨⟨some 155, .load 23 (.tmp 154), none⟩, [0, 1, 2]⟩, ⟨⟨some 156, .binOp .add 23 (.tmp 152) (.tmp 155) 23, none⟩, []⟩, ⟨⟨some 157, .indexAddr 24 (.tmp 2) (.tmp 150), none⟩, []⟩, ⟨⟨none, .store 23 (.tmp 157) (.tmp 156), none⟩, []⟩])) (.keep [2, 4, 12, 147]))
@[go_sem ↓] def uq32 := @unC _ _ kc28.eq_1
def kc29 : C := (.seq (.reg ([⟨some 158, .binOp .add 3 (.tmp 147) (.const (.int .i64 1)) 3, none⟩, ⟨some 147, .move (.tmp 158), none⟩])) (.keep [2, 4, 12, 147]))
@[go_sem ↓] def uq33 := @unC _ _ kc29.eq_1
def kc30 : C := (.seq (.block 9 (.seq (.seq (.reg ([⟨some 149, .move (.tmp 147), none⟩, ⟨some 18, .assign (.tmp 149), none⟩])) (.keep [2, 4, 12, 18, 147])) kc28)) kc29)
@[go_sem ↓] def uq34 := @unC _ _ kc30.eq_1
def kc31 : C := (.seq (.cond (.tmp 148) .skip (.exit 8)) kc30)
@[go_sem ↓] def uq35 := @unC _ _ kc31.eq_1
def kc32 : C := (.seq (.seq (.reg ([⟨some 148, .binOp .lss 3 (.tmp 147) (.const (.int .i64 8)) 3, none⟩])) (.keep [2, 4, 12, 147, 148])) kc31)
@[go_sem ↓] def uq36 := @unC _ _ kc32.eq_1
def kc33 : C := (.block 8 (.loop [] [2, 4, 12, 147] kc32))
@[go_sem ↓] def uq37 := @unC _ _ kc33.eq_1
def kc34 : C := (.seq (.seq (.reg ([⟨some 159, .load 24 (.tmp 2), none⟩, ⟨none, .store 24 (.tmp 4) (.tmp 159), none⟩])) (.keep [4])) .ret)
@[go_sem ↓] def uq38 := @unC _ _ kc34.eq_1
def kc35 : C := (.seq (.seq (.seq (.reg ([⟨some 147, .move (.const (.int .i64 0)), none⟩])) (.keep [2, 4, 12, 147])) kc33) kc34)
@[go_sem ↓] def uq39 := @unC _ _ kc35.eq_1
def kc36 : C := (.seq (.seq (.seq (.reg ([⟨some 83, .move (.const (.int .i64 0)), none⟩])) (.keep [2, 4, 5, 12, 83])) kc27) kc35)
@[go_sem ↓] def uq40 := @unC _ _ kc36.eq_1
def kc37 : C := (.seq (.seq (.reg ([⟨some 82, .load 24 (.tmp 2), none⟩, ⟨some 12, .alloc 24, none⟩, ⟨none, .store 24 (.tmp 12) (.tmp 82), none⟩])) (.keep [2, 4, 5, 12])) kc36)
@[go_sem ↓] def uq41 := @unC _ _ kc37.eq_1
def kc38 : C := (.seq (.seq (.seq (.reg ([⟨some 9, .assign (.const (.int .i64 16)), none⟩])) (.keep [2, 4, 5, 9])) kc17) kc37)
@[go_sem ↓] def uq42 := @unC _ _ kc38.eq_1
def kc39 : C := (.seq (.seq (.seq (.reg ([⟨some 19, .move (.const (.int .i64 0)), none⟩])) (.keep [1, 2, 4, 5, 19])) kc11) kc38)
@[go_sem ↓] def uq43 := @unC _ _ kc39.eq_1
def kc40 : C := (.seq (.seq (.reg ([⟨some 5, .alloc 117, none⟩])) (.keep [1, 2, 4, 5])) kc39)
@[go_sem ↓] def uq44 := @unC _ _ kc40.eq_1
def c_sha_take : C := (.seq (.seq (.reg ([⟨some 2, .box 24 (.tmp 0), none⟩, ⟨some 4, .alloc 24, none⟩])) (.keep [1, 2, 4])) kc40)
attribute [go_sem ↓] c_sha_take
def h_sha_take : List Hint := [⟨[], [1, 2, 4], []⟩, ⟨[], [1, 2, 4, 5], []⟩, ⟨[], [1, 2, 4, 5, 19], []⟩, ⟨[], [1, 2, 4, 5, 19], []⟩, ⟨[], [1, 2, 4, 5, 19, 20], []⟩, ⟨[], [1, 2, 4, 5, 6, 19], []⟩, ⟨[], [1, 2, 4, 5, 6, 19, 28, 29, 30], []⟩, ⟨[], [1, 2, 4, 5, 6, 19, 28, 29, 30], []⟩, ⟨[], [1, 2, 4, 5, 6, 19, 28, 29, 30, 31], []⟩, ⟨[], [1, 2, 4, 5, 6, 8, 19, 28, 29, 30], []⟩, ⟨[], [1, 2, 4, 5, 6, 19, 28, 29, 30], []⟩, ⟨[], [1, 2, 4, 5, 6, 19, 28, 29, 30], []⟩, ⟨[], [1, 2, 4, 5, 19], []⟩, ⟨[], [2, 4, 5, 9], []⟩, ⟨[], [2, 4, 5, 9], []⟩, ⟨[], [2, 4, 5, 9, 46], []⟩, ⟨[], [2, 4, 5, 9, 10, 11], []⟩, ⟨[], [2, 4, 5, 9], []⟩, ⟨[], [2, 4, 5, 9], []⟩, ⟨[], [2, 4, 5, 12], []⟩, ⟨[], [2, 4, 5, 12, 83], []⟩, ⟨[], [2, 4, 5, 12, 83], []⟩, ⟨[], [2, 4, 5, 12, 83, 84], []⟩, ⟨[], [2, 4, 5, 12, 13, 83], []⟩, ⟨[], [2, 4, 5, 12, 13, 14, 15, 83], []⟩, ⟨[], [2, 4, 5, 12, 14, 16, 83], []⟩, ⟨[], [2, 4, 5, 12, 16, 17, 83], []⟩, ⟨[], [2, 4, 5, 12, 16, 17, 83], []⟩, ⟨[], [2, 4, 5, 12, 83], []⟩, ⟨[], [2, 4, 5, 12, 83], []⟩, ⟨[], [2, 4, 12, 147], []⟩, ⟨[], [2, 4, 12, 147], []⟩, ⟨[], [2, 4, 12, 147, 148], []⟩, ⟨[], [2, 4, 12, 18, 147], []⟩, ⟨[], [2, 4, 12, 147], []⟩, ⟨[], [2, 4, 12, 147], []⟩, ⟨[], [4], []⟩]
theorem b_sha_take : Body Tryd.prog 59 [] h_sha_take c_sha_take 160 [.cell 4 24] := body_of Tryd.func59 (by kernel_rfl) (by kernel_rfl) (by kernel_rfl) (by kernel_rfl)
def kc41 : C := (.cond (.tmp 25) .skip (.exit 0))
@[go_sem ↓] def uq45 := @unC _ _ kc41.eq_1
def kc42 : C := (.seq (.reg ([⟨some 26, .move (.tmp 6), none⟩, ⟨some 27, .binOp .add 3 (.tmp 26) (.const (.int .i64 1)) 3, none⟩, ⟨some 6, .assign (.tmp 27), none⟩])) (.keep [1, 2, 4, 5, 6]))
@[go_sem ↓] def uq46 := @unC _ _ kc42.eq_1
def kc43 : C := (.seq (.block 1 (.seq (.draw ([⟨⟨some 28, .move (.tmp 5), none⟩, []⟩, ⟨⟨some 29, .move (.tmp 1), none⟩, [0]⟩, ⟨⟨some 30, .move (.tmp 6), none⟩, [0, 1]⟩, ⟨⟨some 31, .binOp .mul 3 (.const (.int .i64 4)) (.tmp 30) 3, none⟩, [0, 1]⟩, ⟨⟨some 32, .indexAddr 22 (.tmp 29) (.tmp 31), none⟩, [0]⟩, ⟨⟨some 33, .load 5 (.tmp 32), none⟩, [0]⟩, ⟨⟨some 34, .convert 5 23 (.tmp 33), none⟩, [0]⟩, ⟨⟨some 35, .binOp .mul 23 (.tmp 34) (.const (.int .u32 16777216)) 23, none⟩, [0]⟩, ⟨⟨some 36, .move (.tmp 1), none⟩, [0, 1, 2, 3, 4, 5, 6, 7]⟩, ⟨⟨some 37, .move (.tmp 6), none⟩, [0, 1, 2, 3, 4, 5, 6, 7, 8]⟩, ⟨⟨some 38, .binOp .mul 3 (.const (.int .i64 4)) (.tmp 37) 3, none⟩, [0, 1, 2, 3, 4, 5, 6, 7, 8]⟩, ⟨⟨some 39, .binOp .add 3 (.tmp 38) (.const (.int .i64 1)) 3, none⟩, [0, 1, 2, 3, 4, 5, 6, 7, 8]⟩, ⟨⟨some 40, .indexAddr 22 (.tmp 36) (.tmp 39), none⟩, [0, 1, 2, 3, 4, 5, 6, 7]⟩, ⟨⟨some 41, .load 5 (.tmp 40), none⟩, [0, 1, 2, 3, 4, 5, 6, 7]⟩, ⟨⟨some 42, .convert 5 23 (.tmp 41), none⟩, [0, 1, 2, 3, 4, 5, 6, 7]⟩, ⟨⟨some 43, .binOp .mul 23 (.tmp 42) (.const (.int .u32 65536)) 23, none⟩, [0, 1, 2, 3, 4, 5, 6, 7]⟩, ⟨⟨some 44, .binOp .add 23 (.tmp 35) (.tmp 43) 23, none⟩, [0]⟩, ⟨⟨some 45, .move (.tmp 1), none⟩, [0, 1, 2, 3, 4, 5, 6, 7, 8, 9, 10, 11, 12, 13, 14, 15, 16]⟩, ⟨⟨some 46, .move (.tmp 6), none⟩, [0, 1, 2, 3, 4, 5, 6, 7, 8, 9, 10, 11, 12, 13, 14, 15, 16, 17]⟩, ⟨⟨some 47, .binOp .mul 3 (.const (.int .i64 4)) (.tmp 46) 3, none⟩, [0, 1, 2, 3, 4, 5, 6, 7, 8, 9, 10, 11, 12, 13, 14, 15, 16, 17]⟩, ⟨⟨some 48, .binOp .add 3 (.tmp 47) (.const (.int .i64 2)) 3, none⟩, [0, 1, 2, 3, 4, 5, 6, 7, 8, 9, 10, 11, 12, 13, 14, 15, 16, 17]⟩, ⟨⟨some 49, .indexAddr 22 (.tmp 45) (.tmp 48), none⟩, [0, 1, 2, 3, 4, 5, 6, 7, 8, 9, 10, 11, 12, 13, 14, 15, 16]⟩, ⟨⟨some 50, .load 5 (.tmp 49), none⟩, [0, 1, 2, 3, 4, 5, 6, 7, 8, 9, 10, 11, 12, 13, 14, 15, 16]⟩, ⟨⟨some 51, .convert 5 23 (.tmp 50), none⟩, [0, 1, 2, 3, 4, 5, 6, 7, 8, 9, 10, 11, 12, 13, 14, 15, 16]⟩, ⟨⟨some 52, .binOp .mul 23 (.tmp 51) (.const (.int .u32 256)) 23, none⟩, [0, 1, 2, 3, 4, 5, 6, 7, 8, 9, 10, 11, 12, 13, 14, 15, 16]⟩, ⟨⟨some 53, .binOp .add 23 (.tmp 44) (.tmp 52) 23, none⟩, [0]⟩, ⟨⟨some 54, .move (.tmp 1), none⟩, [0, 1, 2, 3, 4, 5, 6, 7, 8, 9, 10, 11, 12, 13, 14, 15, 16, 17, 18, 19, 20, 21, 22, 23, 24, 25]⟩, ⟨⟨some 55, .move (.tmp 6), none⟩, [0, 1, 2, 3, 4, 5, 6, 7, 8, 9, 10, 11, 12, 13, 14, 15, 16, 17, 18, 19, 20, 21, 22, 23, 24, 25, 26]⟩, ⟨⟨some 56, .binOp .mul 3 (.const (.int .i64 4)) (.tmp 55) 3, none⟩, [0, 1, 2, 3, 4, 5, 6, 7, 8, 9, 10, 11, 12, 13, 14, 15, 16, 17, 18, 19, 20, 21, 22, 23, 24, 25, 26]⟩, ⟨⟨some 57, .binOp .add 3 (.tmp 56) (.const (.int .i64 3)) 3, none⟩, [0, 1, 2, 3, 4, 5, 6, 7, 8, 9, 10, 11, 12, 13, 14, 15, 16, 17, 18, 19, 20, 21, 22, 23, 24, 25, 26]⟩, ⟨⟨some 58, .indexAddr 22 (.tmp 54) (.tmp 57), none⟩, [0, 1, 2, 3, 4, 5, 6, 7, 8, 9, 10, 11, 12, 13, 14, 15, 16, 17, 18, 19, 20, 21, 22, 23, 24, 25]⟩, ⟨⟨some 59, .load 5 (.tmp 58), none⟩, [0, 1, 2, 3, 4, 5, 6, 7, 8, 9, 10, 11, 12, 13, 14, 15, 16, 17, 18, 19, 20, 21, 22, 23, 24, 25]⟩, ⟨⟨some 60, .convert 5 23 (.tmp 59), none⟩, [0, 1, 2, 3, 4, 5, 6, 7, 8, 9, 10, 11, 12, 13, 14, 15, 16, 17, 18, 19, 20, 21, 22, 23, 24, 25]⟩, ⟨⟨some 61, .binOp .add 23 (.tmp 53) (.tmp 60) 23, none⟩, [0]⟩, ⟨⟨some 62, .buildSlice 119 1 #[(0, (.tmp 61))], none⟩, [0]⟩, ⟨⟨some 63, .call { callee := .builtin .append, args := #[(.tmp 28), (.tmp 62)], argTypes := #[119, 119] }, none⟩, []⟩, ⟨⟨some 5, .assign (.tmp 63), none⟩, []⟩])) (.keep [1, 2, 4, 5, 6]))) kc42)
@[go_sem ↓] def uq47 := @unC _ _ kc43.eq_1
def kc44 : C := (.seq (.seq (.seq (.reg ([⟨some 24, .move (.tmp 6), none⟩, ⟨some 25, .binOp .lss 3 (.tmp 24) (.const (.int .i64 16)) 3, none⟩])) (.keep [1, 2, 4, 5, 6, 25])) kc41) kc43)
@[go_sem ↓] def uq48 := @unC _ _ kc44.eq_1
def kc45 : C := (.block 0 (.loop [(5, 1)] [1, 2, 4, 5, 6] kc44))
@[go_sem ↓] def uq49 := @unC _ _ kc45.eq_1
def kc46 : C := (.cond (.tmp 65) .skip (.exit 2))
@[go_sem ↓] def uq50 := @unC _ _ kc46.eq_1
def r_ref08_Taken_6 : List I := [⟨some 82, .binOp .xor 23 (.tmp 79) (.tmp 81) 23, none⟩, ⟨some 83, .move (.tmp 8), none⟩, ⟨some 84, .binOp .shr 23 (.tmp 83) (.const (.int .u64 3)) 112, none⟩, ⟨some 85, .binOp .xor 23 (.tmp 82) (.tmp 84) 23, none⟩, ⟨some 10, .assign (.tmp 85), none⟩]
@[go_sem ↓] def uq51 := @unI _ _ r_ref08_Taken_6.eq_1
def r_ref08_Taken_7 : List I := ⟨some 80, .move (.tmp 8), none⟩ :: ⟨some 81, .call { callee := .value (.func 73), args := #[(.tmp 80), (.const (.int .i64 18))], argTypes := #[23, 3] }, none⟩ :: r_ref08_Taken_6
@[go_sem ↓] def uq52 := @unI _ _ r_ref08_Taken_7.eq_1
def r_ref08_Taken_8 : List I := [⟨some 90, .binOp .xor 23 (.tmp 87) (.tmp 89) 23, none⟩, ⟨some 91, .move (.tmp 9), none⟩, ⟨some 92, .binOp .shr 23 (.tmp 91) (.const (.int .u64 10)) 112, none⟩, ⟨some 93, .binOp .xor 23 (.tmp 90) (.tmp 92) 23, none⟩, ⟨some 11, .assign (.tmp 93), none⟩]
@[go_sem ↓] def uq53 := @unI _ _ r_ref08_Taken_8.eq_1
def r_ref08_Taken_9 : List I := ⟨some 88, .move (.tmp 9), none⟩ :: ⟨some 89, .call { callee := .value (.func 73), args := #[(.tmp 88), (.const (.int .i64 19))], argTypes := #[23, 3] }, none⟩ :: r_ref08_Taken_8
@[go_sem ↓] def uq54 := @unI _ _ r_ref08_Taken_9.eq_1
def kc47 : C := (.seq (.draw ([⟨⟨some 94, .move (.tmp 5), none⟩, []⟩, ⟨⟨some 95, .move (.tmp 5), none⟩, [0]⟩, ⟨⟨some 96, .move (.tmp 7), none⟩, [0, 1]⟩, ⟨⟨some 97, .binOp .sub 3 (.tmp 96) (.const (.int .i64 16)) 3, none⟩, [0, 1]⟩, ⟨⟨some 98, .indexAddr 119 (.tmp 95) (.tmp 97), none⟩, [0]⟩, ⟨⟨some 99, .load 23 (.tmp 98), none⟩, [0]⟩, ⟨⟨some 100, .move (.tmp 5), none⟩, [0, 1, 2, 3, 4, 5]⟩, ⟨⟨some 101, .move (.tmp 7), none⟩, [0, 1, 2, 3, 4, 5, 6]⟩, ⟨⟨some 102, .binOp .sub 3 (.tmp 101) (.const (.int .i64 7)) 3, none⟩, [0, 1, 2, 3, 4, 5, 6]⟩, ⟨⟨some 103, .indexAddr 119 (.tmp 100) (.tmp 102), none⟩, [0, 1, 2, 3, 4, 5]⟩, ⟨⟨some 104, .load 23 (.tmp 103), none⟩, [0, 1, 2, 3, 4, 5]⟩, ⟨⟨some 105, .binOp .add 23 (.tmp 99) (.tmp 104) 23, none⟩, [0]⟩, ⟨⟨some 106, .move (.tmp 10), none⟩, [0, 1, 2, 3, 4, 5, 6, 7, 8, 9, 10, 11]⟩, ⟨⟨some 107, .binOp .add 23 (.tmp 105) (.tmp 106) 23, none⟩, [0]⟩, ⟨⟨some 108, .move (.tmp 11), none⟩, [0, 1, 2, 3, 4, 5, 6, 7, 8, 9, 10, 11, 12, 13]⟩, ⟨⟨some 109, .binOp .add 23 (.tmp 107) (.tmp 108) 23, none⟩, [0]⟩, ⟨⟨some 110, .buildSlice 119 1 #[(0, (.tmp 109))], none⟩, [0]⟩, ⟨⟨some 111, .call { callee := .builtin .append, args := #[(.tmp 94), (.tmp 110)], argTypes := #[119, 119] }, none⟩, []⟩, ⟨⟨some 5, .assign (.tmp 111), none⟩, []⟩])) (.keep [2, 4, 5, 7]))
@[go_sem ↓] def uq55 := @unC _ _ kc47.eq_1
def kc48 : C := (.seq (.seq (.reg (⟨some 86, .move (.tmp 9), none⟩ :: ⟨some 87, .call { callee := .value (.func 73), args := #[(.tmp 86), (.const (.int .i64 17))], argTypes := #[23, 3] }, none⟩ :: r_ref08_Taken_9)) (.keep [2, 4, 5, 7, 10, 11])) kc47)
@[go_sem ↓] def uq56 := @unC _ _ kc48.eq_1
def kc49 : C := (.seq (.seq (.reg (⟨some 78, .move (.tmp 8), none⟩ :: ⟨some 79, .call { callee := .value (.func 73), args := #[(.tmp 78), (.const (.int .i64 7))], argTypes := #[23, 3] }, none⟩ :: r_ref08_Taken_7)) (.keep [2, 4, 5, 7, 9, 10])) kc48)
@[go_sem ↓] def uq57 := @unC _ _ kc49.eq_1
def kc50 : C := (.seq (.reg ([⟨some 66, .move (.tmp 7), none⟩, ⟨some 67, .binOp .add 3 (.tmp 66) (.const (.int .i64 1)) 3, none⟩, ⟨some 7, .assign (.tmp 67), none⟩])) (.keep [2, 4, 5, 7]))
@[go_sem ↓] def uq58 := @unC _ _ kc50.eq_1
def kc51 : C := (.seq (.block 3 (.seq (.seq (.draw ([⟨⟨some 68, .move (.tmp 5), none⟩, []⟩, ⟨⟨some 69, .move (.tmp 7), none⟩, [0]⟩, ⟨⟨some 70, .binOp .sub 3 (.tmp 69) (.const (.int .i64 15)) 3, none⟩, [0]⟩, ⟨⟨some 71, .indexAddr 119 (.tmp 68) (.tmp 70), none⟩, []⟩, ⟨⟨some 72, .load 23 (.tmp 71), none⟩, []⟩, ⟨⟨some 73, .move (.tmp 5), none⟩, [0, 1, 2, 3, 4]⟩, ⟨⟨some 74, .move (.tmp 7), none⟩, [0, 1, 2, 3, 4, 5]⟩, ⟨⟨some 75, .binOp .sub 3 (.tmp 74) (.const (.int .i64 2)) 3, none⟩, [0, 1, 2, 3, 4, 5]⟩, ⟨⟨some 76, .indexAddr 119 (.tmp 73) (.tmp 75), none⟩, [0, 1, 2, 3, 4]⟩, ⟨⟨some 77, .load 23 (.tmp 76), none⟩, [0, 1, 2, 3, 4]⟩, ⟨⟨some 8, .assign (.tmp 72), none⟩, [5, 6, 7, 8, 9]⟩, ⟨⟨some 9, .assign (.tmp 77), none⟩, []⟩])) (.keep [2, 4, 5, 7, 8, 9])) kc49)) kc50)
@[go_sem ↓] def uq59 := @unC _ _ kc51.eq_1
def kc52 : C := (.seq (.seq (.seq (.reg ([⟨some 64, .move (.tmp 7), none⟩, ⟨some 65, .binOp .lss 3 (.tmp 64) (.const (.int .i64 64)) 3, none⟩])) (.keep [2, 4, 5, 7, 65])) kc46) kc51)
@[go_sem ↓] def uq60 := @unC _ _ kc52.eq_1
def kc53 : C := (.block 2 (.loop [(5, 1)] [2, 4, 5, 7] kc52))
@[go_sem ↓] def uq61 := @unC _ _ kc53.eq_1
def r_ref08_Taken_17 : List I := [⟨some 12, .assign (.tmp 112), none⟩]
@[go_sem ↓] def uq62 := @unI _ _ r_ref08_Taken_17.eq_1
def kc54 : C := (.cond (.tmp 130) .skip (.exit 4))
@[go_sem ↓] def uq63 := @unC _ _ kc54.eq_1
def d_ref08_Taken_19 : List D := [⟨⟨some 141, .binOp .xor 23 (.tmp 138) (.tmp 140) 23, none⟩, [0]⟩, ⟨⟨some 142, .binOp .add 23 (.tmp 133) (.tmp 141) 23, none⟩, []⟩, ⟨⟨some 143, .move (.tmp 17), none⟩, [0, 1, 2, 3, 4, 5, 6, 7, 8, 9]⟩, ⟨⟨some 144, .move (.tmp 18), none⟩, [0, 1, 2, 3, 4, 5, 6, 7, 8, 9, 10]⟩, ⟨⟨some 145, .binOp .and 23 (.tmp 143) (.tmp 144) 23, none⟩, [0, 1, 2, 3, 4, 5, 6, 7, 8, 9]⟩, ⟨⟨some 146, .move (.tmp 17), none⟩, [0, 1, 2, 3, 4, 5, 6, 7, 8, 9, 10, 11, 12]⟩, ⟨⟨some 147, .unOp .xor 23 (.tmp 146), none⟩, [0, 1, 2, 3, 4, 5, 6, 7, 8, 9, 10, 11, 12]⟩, ⟨⟨some 148, .move (.tmp 19), none⟩, [0, 1, 2, 3, 4, 5, 6, 7, 8, 9, 10, 11, 12, 13, 14]⟩, ⟨⟨some 149, .binOp .and 23 (.tmp 147) (.tmp 148) 23, none⟩, [0, 1, 2, 3, 4, 5, 6, 7, 8, 9, 10, 11, 12]⟩, ⟨⟨some 150, .binOp .xor 23 (.tmp 145) (.tmp 149) 23, none⟩, [0, 1, 2, 3, 4, 5, 6, 7, 8, 9]⟩, ⟨⟨some 151, .binOp .add 23 (.tmp 142) (.tmp 150) 23, none⟩, []⟩, ⟨⟨some 152, .move (.tmp 12), none⟩, [0, 1, 2, 3, 4, 5, 6, 7, 8, 9, 10, 11, 12, 13, 14, 15, 16, 17, 18]⟩, ⟨⟨some 153, .move (.tmp 21), none⟩, [0, 1, 2, 3, 4, 5, 6, 7, 8, 9, 10, 11, 12, 13, 14, 15, 16, 17, 18, 19]⟩, ⟨⟨some 154, .indexAddr 119 (.tmp 152) (.tmp 153), none⟩, [0, 1, 2, 3, 4, 5, 6, 7, 8, 9, 10, 11, 12, 13, 14, 15, 16, 17, 18]⟩, ⟨⟨some 155, .load 23 (.tmp 154), none⟩, [0, 1, 2, 3, 4, 5, 6, 7, 8, 9, 10, 11, 12, 13, 14, 15, 16, 17, 18]⟩, ⟨⟨some 156, .binOp .add 23 (.tmp 151) (.tmp 155) 23, none⟩, []⟩, ⟨⟨some 157, .move (.tmp 5), none⟩, [0, 1, 2, 3, 4, 5, 6, 7, 8, 9, 10, 11, 12, 13, 14, 15, 16, 17, 18, 19, 20, 21, 22, 23]⟩, ⟨⟨some 158, .move (.tmp 21), none⟩, [0, 1, 2, 3, 4, 5, 6, 7, 8, 9, 10, 11, 12, 13, 14, 15, 16, 17, 18, 19, 20, 21, 22, 23, 24]⟩, ⟨⟨some 159, .indexAddr 119 (.tmp 157) (.tmp 158), none⟩, [0, 1, 2, 3, 4, 5, 6, 7, 8, 9, 10, 11, 12, 13, 14, 15, 16, 17, 18, 19, 20, 21, 22, 23]⟩, ⟨⟨some 160, .load 23 (.tmp 159), none⟩, [0, 1, 2, 3, 4, 5, 6, 7, 8, 9, 10, 11, 12, 13, 14, 15, 16, 17, 18, 19, 20, 21, 22, 23]⟩, ⟨⟨some 161, .binOp .add 23 (.tmp 156) (.tmp 160) 23, none⟩, []⟩, ⟨⟨some 22, .assign (.tmp 161), none⟩, []⟩]
@[go_sem ↓] def uq64 := @unD _ _ d_ref08_Taken_19.eq_1
def d_ref08_Taken_20 : List D := ⟨⟨some 138, .binOp .xor 23 (.tmp 135) (.tmp 137) 23, none⟩, [0]⟩ :: ⟨⟨some 139, .move (.tmp 17), none⟩, [0, 1, 2, 3, 4, 5]⟩ :: ⟨⟨some 140, .call { callee := .value (.func 73), args := #[(.tmp 139), (.const (.int .i64 25))], argTypes := #[23, 3] }, none⟩, [0, 5]⟩ :: d_ref08_Taken_19
@[go_sem ↓] def uq65 := @unD _ _ d_ref08_Taken_20.eq_1
def d_ref08_Taken_21 : List D := ⟨⟨some 136, .move (.tmp 17), none⟩, [0, 1, 2]⟩ :: ⟨⟨some 137, .call { callee := .value (.func 73), args := #[(.tmp 136), (.const (.int .i64 11))], argTypes := #[23, 3] }, none⟩, [0]⟩ :: d_ref08_Taken_20
@[go_sem ↓] def uq66 := @unD _ _ d_ref08_Taken_21.eq_1
def r_ref08_Taken_22 : List I := [⟨some 169, .binOp .xor 23 (.tmp 166) (.tmp 168) 23, none⟩, ⟨some 170, .move (.tmp 13), none⟩, ⟨some 171, .move (.tmp 14), none⟩, ⟨some 172, .binOp .and 23 (.tmp 170) (.tmp 171) 23, none⟩, ⟨some 173, .move (.tmp 13), none⟩, ⟨some 174, .move (.tmp 15), none⟩, ⟨some 175, .binOp .and 23 (.tmp 173) (.tmp 174) 23, none⟩, ⟨some 176, .binOp .xor 23 (.tmp 172) (.tmp 175) 23, none⟩, ⟨some 177, .move (.tmp 14), none⟩, ⟨some 178, .move (.tmp 15), none⟩, ⟨some 179, .binOp .and 23 (.tmp 177) (.tmp 178) 23, none⟩, ⟨some 180, .binOp .xor 23 (.tmp 176) (.tmp 179) 23, none⟩, ⟨some 181, .binOp .add 23 (.tmp 169) (.tmp 180) 23, none⟩, ⟨some 23, .assign (.tmp 181), none⟩]
@[go_sem ↓] def uq67 := @unI _ _ r_ref08_Taken_22.eq_1
def r_ref08_Taken_23 : List I := ⟨some 166, .binOp .xor 23 (.tmp 163) (.tmp 165) 23, none⟩ :: ⟨some 167, .move (.tmp 13), none⟩ :: ⟨some 168, .call { callee := .value (.func 73), args := #[(.tmp 167), (.const (.int .i64 22))], argTypes := #[23, 3] }, none⟩ :: r_ref08_Taken_22
@[go_sem ↓] def uq68 := @unI _ _ r_ref08_Taken_23.eq_1
def r_ref08_Taken_24 : List I := ⟨some 164, .move (.tmp 13), none⟩ :: ⟨some 165, .call { callee := .value (.func 73), args := #[(.tmp 164), (.const (.int .i64 13))], argTypes := #[23, 3] }, none⟩ :: r_ref08_Taken_23
@[go_sem ↓] def uq69 := @unI _ _ r_ref08_Taken_24.eq_1
def kc55 : C := (.seq (.reg ([⟨some 182, .move (.tmp 19), none⟩, ⟨some 183, .move (.tmp 18), none⟩, ⟨some 184, .move (.tmp 17), none⟩, ⟨some 185, .move (.tmp 16), none⟩, ⟨some 186, .move (.tmp 22), none⟩, ⟨some 187, .binOp .add 23 (.tmp 185) (.tmp 186) 23, none⟩, ⟨some 188, .move (.tmp 15), none⟩, ⟨some 189, .move (.tmp 14), none⟩, ⟨some 190, .move (.tmp 13), none⟩, ⟨some 191, .move (.tmp 22), none⟩, ⟨some 192, .move (.tmp 23), none⟩, ⟨some 193, .binOp .add 23 (.tmp 191) (.tmp 192) 23, none⟩, ⟨some 20, .assign (.tmp 182), none⟩, ⟨some 19, .assign (.tmp 183), none⟩, ⟨some 18, .assign (.tmp 184), none⟩, ⟨some 17, .assign (.tmp 187), none⟩, ⟨some 16, .assign (.tmp 188), none⟩, ⟨some 15, .assign (.tmp 189), none⟩, ⟨some 14, .assign (.tmp 190), none⟩, ⟨some 13, .assign (.tmp 193), none⟩])) (.keep [2, 4, 5, 12, 13, 14, 15, 16, 17, 18, 19, 20, 21]))
@[go_sem ↓] def uq70 := @unC _ _ kc55.eq_1
def kc56 : C := (.seq (.seq (.reg (⟨some 162, .move (.tmp 13), none⟩ :: ⟨some 163, .call { callee := .value (.func 73), args := #[(.tmp 162), (.const (.int .i64 2))], argTypes := #[23, 3] }, none⟩ :: r_ref08_Taken_24)) (.keep [2, 4, 5, 12, 13, 14, 15, 16, 17, 18, 19, 21, 22, 23])) kc55)
@[go_sem ↓] def uq71 := @unC _ _ kc56.eq_1
def kc57 : C := (.seq (.reg ([⟨some 131, .move (.tmp 21), none⟩, ⟨some 132, .binOp .add 3 (.tmp 131) (.const (.int .i64 1)) 3, none⟩, ⟨some 21, .assign (.tmp 132), none⟩])) (.keep [2, 4, 5, 12, 13, 14, 15, 16, 17, 18, 19, 20, 21]))
@[go_sem ↓] def uq72 := @unC _ _ kc57.eq_1
def kc58 : C := (.seq (.block 5 (.seq (.seq (.draw (⟨⟨some 133, .move (.tmp 20), none⟩, []⟩ :: ⟨⟨some 134, .move (.tmp 17), none⟩, [0]⟩ :: ⟨⟨some 135, .call { callee := .value (.func 73), args := #[(.tmp 134), (.const (.int .i64 6))], argTypes := #[23, 3] }, none⟩, [0]⟩ :: d_ref08_Taken_21)) (.keep [2, 4, 5, 12, 13, 14, 15, 16, 17, 18, 19, 21, 22])) kc56)) kc57)
@[go_sem ↓] def uq73 := @unC _ _ kc58.eq_1
def kc59 : C := (.seq (.seq (.seq (.reg ([⟨some 129, .move (.tmp 21), none⟩, ⟨some 130, .binOp .lss 3 (.tmp 129) (.const (.int .i64 64)) 3, none⟩])) (.keep [2, 4, 5, 12, 13, 14, 15, 16, 17, 18, 19, 20, 21, 130])) kc54) kc58)
@[go_sem ↓] def uq74 := @unC _ _ kc59.eq_1
def kc60 : C := (.block 4 (.loop [] [2, 4, 5, 12, 13, 14, 15, 16, 17, 18, 19, 20, 21] kc59))
@[go_sem ↓] def uq75 := @unC _ _ kc60.eq_1
def kc61 : C := (.seq (.seq (.reg ([⟨some 194, .indexAddr 24 (.tmp 2) (.const (.int .i64 0)), none⟩, ⟨some 195, .load 23 (.tmp 194), none⟩, ⟨some 196, .move (.tmp 13), none⟩, ⟨some 197, .binOp .add 23 (.tmp 195) (.tmp 196) 23, none⟩, ⟨some 198, .indexAddr 24 (.tmp 2) (.const (.int .i64 1)), none⟩, ⟨some 199, .load 23 (.tmp 198), none⟩, ⟨some 200, .move (.tmp 14), none⟩, ⟨some 201, .binOp .add 23 (.tmp 199) (.tmp 200) 23, none⟩, ⟨some 202, .indexAddr 24 (.tmp 2) (.const (.int .i64 2)), none⟩, ⟨some 203, .load 23 (.tmp 202), none⟩, ⟨some 204, .move (.tmp 15), none⟩, ⟨some 205, .binOp .add 23 (.tmp 203) (.tmp 204) 23, none⟩, ⟨some 206, .indexAddr 24 (.tmp 2) (.const (.int .i64 3)), none⟩, ⟨some 207, .load 23 (.tmp 206), none⟩, ⟨some 208, .move (.tmp 16), none⟩, ⟨some 209, .binOp .add 23 (.tmp 207) (.tmp 208) 23, none⟩, ⟨some 210, .indexAddr 24 (.tmp 2) (.const (.int .i64 4)), none⟩, ⟨some 211, .load 23 (.tmp 210), none⟩, ⟨some 212, .move (.tmp 17), none⟩, ⟨some 213, .binOp .add 23 (.tmp 211) (.tmp 212) 23, none⟩, ⟨some 214, .indexAddr 24 (.tmp 2) (.const (.int .i64 5)), none⟩, ⟨some 215, .load 23 (.tmp 214), none⟩, ⟨some 216, .move (.tmp 18), none⟩, ⟨some 217, .binOp .add 23 (.tmp 215) (.tmp 216) 23, none⟩, ⟨some 218, .indexAddr 24 (.tmp 2) (.const (.int .i64 6)), none⟩, ⟨some 219, .load 23 (.tmp 218), none⟩, ⟨some 220, .move (.tmp 19), none⟩, ⟨some 221, .binOp .add 23 (.tmp 219) (.tmp 220) 23, none⟩, ⟨some 222, .indexAddr 24 (.tmp 2) (.const (.int .i64 7)), none⟩, ⟨some 223, .load 23 (.tmp 222), none⟩, ⟨some 224, .move (.tmp 20), none⟩, ⟨some 225, .binOp .add 23 (.tmp 223) (.tmp 224) 23, none⟩, ⟨some 226, .build 24 #[(0, (.tmp 197)), (1, (.tmp 201)), (2, (.tmp 205)), (3, (.tmp 209)), (4, (.tmp 213)), (5, (.tmp 217)), (6, (.tmp 221)), (7, (.tmp 225))], none⟩, ⟨none, .store 24 (.tmp 4) (.tmp 226), none⟩])) (.keep [4])) .ret)
@[go_sem ↓] def uq76 := @unC _ _ kc61.eq_1
def kc62 : C := (.seq (.seq (.seq (.reg ([⟨some 21, .assign (.const (.int .i64 0)), none⟩])) (.keep [2, 4, 5, 12, 13, 14, 15, 16, 17, 18, 19, 20, 21])) kc60) kc61)
@[go_sem ↓] def uq77 := @unC _ _ kc62.eq_1
def kc63 : C := (.seq (.seq (.draw ([⟨⟨some 113, .indexAddr 24 (.tmp 2) (.const (.int .i64 0)), none⟩, []⟩, ⟨⟨some 114, .load 23 (.tmp 113), none⟩, []⟩, ⟨⟨some 115, .indexAddr 24 (.tmp 2) (.const (.int .i64 1)), none⟩, [0, 1]⟩, ⟨⟨some 116, .load 23 (.tmp 115), none⟩, [0, 1]⟩, ⟨⟨some 117, .indexAddr 24 (.tmp 2) (.const (.int .i64 2)), none⟩, [0, 1, 2, 3]⟩, ⟨⟨some 118, .load 23 (.tmp 117), none⟩, [0, 1, 2, 3]⟩, ⟨⟨some 119, .indexAddr 24 (.tmp 2) (.const (.int .i64 3)), none⟩, [0, 1, 2, 3, 4, 5]⟩, ⟨⟨some 120, .load 23 (.tmp 119), none⟩, [0, 1, 2, 3, 4, 5]⟩, ⟨⟨some 121, .indexAddr 24 (.tmp 2) (.const (.int .i64 4)), none⟩, [0, 1, 2, 3, 4, 5, 6, 7]⟩, ⟨⟨some 122, .load 23 (.tmp 121), none⟩, [0, 1, 2, 3, 4, 5, 6, 7]⟩, ⟨⟨some 123, .indexAddr 24 (.tmp 2) (.const (.int .i64 5)), none⟩, [0, 1, 2, 3, 4, 5, 6, 7, 8, 9]⟩, ⟨⟨some 124, .load 23 (.tmp 123), none⟩, [0, 1, 2, 3, 4, 5, 6, 7, 8, 9]⟩, ⟨⟨some 125, .indexAddr 24 (.tmp 2) (.const (.int .i64 6)), none⟩, [0, 1, 2, 3, 4, 5, 6, 7, 8, 9, 10, 11]⟩, ⟨⟨some 126, .load 23 (.tmp 125), none⟩, [0, 1, 2, 3, 4, 5, 6, 7, 8, 9, 10, 11]⟩, ⟨⟨some 127, .indexAddr 24 (.tmp 2) (.const (.int .i64 7)), none⟩, [0, 1, 2, 3, 4, 5, 6, 7, 8, 9, 10, 11, 12, 13]⟩, ⟨⟨some 128, .load 23 (.tmp 127), none⟩, [0, 1, 2, 3, 4, 5, 6, 7, 8, 9, 10, 11, 12, 13]⟩, ⟨⟨some 13, .assign (.tmp 114), none⟩, [2, 3, 4, 5, 6, 7, 8, 9, 10, 11, 12, 13, 14, 15]⟩, ⟨⟨some 14, .assign (.tmp 116), none⟩, [4, 5, 6, 7, 8, 9, 10, 11, 12, 13, 14, 15]⟩, ⟨⟨some 15, .assign (.tmp 118), none⟩, [6, 7, 8, 9, 10, 11, 12, 13, 14, 15]⟩, ⟨⟨some 16, .assign (.tmp 120), none⟩, [8, 9, 10, 11, 12, 13, 14, 15]⟩, ⟨⟨some 17, .assign (.tmp 122), none⟩, [10, 11, 12, 13, 14, 15]⟩, ⟨⟨some 18, .assign (.tmp 124), none⟩, [12, 13, 14, 15]⟩, ⟨⟨some 19, .assign (.tmp 126), none⟩, [14, 15]⟩, ⟨⟨some 20, .assign (.tmp 128), none⟩, []⟩])) (.keep [2, 4, 5, 12, 13, 14, 15, 16, 17, 18, 19, 20])) kc62)
@[go_sem ↓] def uq78 := @unC _ _ kc63.eq_1
def kc64 : C := (.seq (.seq (.reg (⟨some 112, .call { callee := .value (.func 74), args := #[], argTypes := #[] }, none⟩ :: r_ref08_Taken_17)) (.keep [2, 4, 5, 12])) kc63)
@[go_sem ↓] def uq79 := @unC _ _ kc64.eq_1
def kc65 : C := (.seq (.seq (.seq (.reg ([⟨some 7, .assign (.const (.int .i64 16)), none⟩])) (.keep [2, 4, 5, 7])) kc53) kc64)
@[go_sem ↓] def uq80 := @unC _ _ kc65.eq_1
def kc66 : C := (.seq (.seq (.seq (.reg ([⟨some 6, .assign (.const (.int .i64 0)), none⟩])) (.keep [1, 2, 4, 5, 6])) kc45) kc65)
@[go_sem ↓] def uq81 := @unC _ _ kc66.eq_1
def kc67 : C := (.seq (.seq (.reg ([⟨some 5, .assign (.const (.slice none 0 0)), none⟩])) (.keep [1, 2, 4, 5])) kc66)
@[go_sem ↓] def uq82 := @unC _ _ kc67.eq_1
def c_ref08_Taken : C := (.seq (.seq (.reg ([⟨some 2, .box 24 (.tmp 0), none⟩, ⟨some 4, .alloc 24, none⟩])) (.keep [1, 2, 4])) kc67)
attribute [go_sem ↓] c_ref08_Taken
def h_ref08_Taken : List Hint := [⟨[], [1, 2, 4], []⟩, ⟨[], [1, 2, 4, 5], []⟩, ⟨[], [1, 2, 4, 5, 6], []⟩, ⟨[(5, 1)], [1, 2, 4, 5, 6], []⟩, ⟨[], [1, 2, 4, 5, 6, 25], []⟩, ⟨[], [1, 2, 4, 5, 6], []⟩, ⟨[], [1, 2, 4, 5, 6], []⟩, ⟨[], [2, 4, 5, 7], []⟩, ⟨[(5, 1)], [2, 4, 5, 7], []⟩, ⟨[], [2, 4, 5, 7, 65], []⟩, ⟨[], [2, 4, 5, 7, 8, 9], []⟩, ⟨[], [2, 4, 5, 7, 9, 10], []⟩, ⟨[], [2, 4, 5, 7, 10, 11], []⟩, ⟨[], [2, 4, 5, 7], []⟩, ⟨[], [2, 4, 5, 7], []⟩, ⟨[], [2, 4, 5, 12], []⟩, ⟨[], [2, 4, 5, 12, 13, 14, 15, 16, 17, 18, 19, 20], []⟩, ⟨[], [2, 4, 5, 12, 13, 14, 15, 16, 17, 18, 19, 20, 21], []⟩, ⟨[], [2, 4, 5, 12, 13, 14, 15, 16, 17, 18, 19, 20, 21], []⟩, ⟨[], [2, 4, 5, 12, 13, 14, 15, 16, 17, 18, 19, 20, 21, 130], []⟩, ⟨[], [2, 4, 5, 12, 13, 14, 15, 16, 17, 18, 19, 21, 22], []⟩, ⟨[], [2, 4, 5, 12, 13, 14, 15, 16, 17, 18, 19, 21, 22, 23], []⟩, ⟨[], [2, 4, 5, 12, 13, 14, 15, 16, 17, 18, 19, 20, 21], []⟩, ⟨[], [2, 4, 5, 12, 13, 14, 15, 16, 17, 18, 19, 20, 21], []⟩, ⟨[], [4], []⟩]
theorem b_ref08_Taken : Body Tryd.prog 60 [] h_ref08_Taken c_ref08_Taken 227 [.cell 4 24] := body_of Tryd.func60 (by kernel_rfl) (by kernel_rfl) (by kernel_rfl) (by kernel_rfl)
def c_ref08_digest : C := (.seq (.seq (.reg ([⟨some 1, .box 24 (.tmp 0), none⟩, ⟨some 2, .alloc 26, none⟩])) (.keep [1, 2])) (.seq (.seq (.reg ([⟨some 3, .alloc 26, none⟩])) (.keep [1, 2, 3])) (.seq (.seq (.seq (.reg ([⟨some 4, .assign (.const (.int .i64 0)), none⟩])) (.keep [1, 2, 3, 4])) (.block 0 (.loop [] [1, 2, 3, 4] (.seq (.seq (.seq (.reg ([⟨some 5, .move (.tmp 4), none⟩, ⟨some 6, .binOp .lss 3 (.tmp 5) (.const (.int .i64 32)) 3, none⟩])) (.keep [1, 2, 3, 4, 6])) (.cond (.tmp 6) .skip (.exit 0))) (.seq (.block 1 (.seq (.reg ([⟨some 9, .move (.tmp 4), none⟩, ⟨some 10, .move (.tmp 4), none⟩, ⟨some 11, .binOp .quo 3 (.tmp 10) (.const (.int .i64 4)) 3, none⟩, ⟨some 12, .indexAddr 24 (.tmp 1) (.tmp 11), none⟩, ⟨some 13, .load 23 (.tmp 12), none⟩, ⟨some 14, .move (.tmp 4), none⟩, ⟨some 15, .binOp .rem 3 (.tmp 14) (.const (.int .i64 4)) 3, none⟩, ⟨some 16, .binOp .mul 3 (.const (.int .i64 8)) (.tmp 15) 3, none⟩, ⟨some 17, .binOp .sub 3 (.const (.int .i64 24)) (.tmp 16) 3, none⟩, ⟨some 18, .binOp .shr 23 (.tmp 13) (.tmp 17) 3, none⟩, ⟨some 19, .convert 23 5 (.tmp 18), none⟩, ⟨some 20, .indexAddr 26 (.tmp 3) (.tmp 9), none⟩, ⟨none, .store 5 (.tmp 20) (.tmp 19), none⟩])) (.keep [1, 2, 3, 4]))) (.seq (.reg ([⟨some 7, .move (.tmp 4), none⟩, ⟨some 8, .binOp .add 3 (.tmp 7) (.const (.int .i64 1)) 3, none⟩, ⟨some 4, .assign (.tmp 8), none⟩])) (.keep [1, 2, 3, 4]))))))) (.seq (.seq (.reg ([⟨some 21, .load 26 (.tmp 3), none⟩, ⟨none, .store 26 (.tmp 2) (.tmp 21), none⟩])) (.keep [2])) .ret))))
attribute [go_sem ↓] c_ref08_digest
def h_ref08_digest : List Hint := [⟨[], [1, 2], []⟩, ⟨[], [1, 2, 3], []⟩, ⟨[], [1, 2, 3, 4], []⟩, ⟨[], [1, 2, 3, 4], []⟩, ⟨[], [1, 2, 3, 4, 6], []⟩, ⟨[], [1, 2, 3, 4], []⟩, ⟨[], [1, 2, 3, 4], []⟩, ⟨[], [2], []⟩]
theorem b_ref08_digest : Body Tryd.prog 69 [] h_ref08_digest c_ref08_digest 22 [.cell 2 26] := body_of Tryd.func69 (by kernel_rfl) (by kernel_rfl) (by kernel_rfl) (by kernel_rfl)
def c_ref08_after : C := (.seq (.seq (.reg ([⟨some 2, .box 24 (.tmp 0), none⟩, ⟨some 4, .alloc 24, none⟩])) (.keep [1, 2, 4])) (.seq (.seq (.seq (.reg ([⟨some 5, .assign (.const (.int .i64 0)), none⟩])) (.keep [1, 2, 4, 5])) (.block 0 (.loop [] [1, 2, 4, 5] (.seq (.seq (.seq (.reg ([⟨some 6, .move (.tmp 5), none⟩, ⟨some 7, .binOp .add 3 (.tmp 6) (.const (.int .i64 64)) 3, none⟩, ⟨some 8, .move (.tmp 1), none⟩, ⟨some 9, .call { callee := .builtin .len, args := #[(.tmp 8)], argTypes := #[22] }, none⟩, ⟨some 10, .binOp .leq 3 (.tmp 7) (.tmp 9) 3, none⟩])) (.keep [1, 2, 4, 5, 10])) (.cond (.tmp 10) .skip (.exit 0))) (.seq (.block 1 (.seq (.draw ([⟨⟨some 13, .load 24 (.tmp 2), none⟩, []⟩, ⟨⟨some 14, .move (.tmp 1), none⟩, [0]⟩, ⟨⟨some 15, .move (.tmp 5), none⟩, [0, 1]⟩, ⟨⟨some 16, .move (.tmp 5), none⟩, [0, 1, 2]⟩, ⟨⟨some 17, .binOp .add 3 (.tmp 16) (.const (.int .i64 64)) 3, none⟩, [0, 1, 2]⟩, ⟨⟨some 18, .slice 22 (.tmp 14) (some (.tmp 15)) (some (.tmp 17)) none, none⟩, [0]⟩, ⟨⟨some 19, .call { callee := .value (.func 60), args := #[(.tmp 13), (.tmp 18)], argTypes := #[24, 22] }, none⟩, []⟩, ⟨⟨none, .store 24 (.tmp 2) (.tmp 19), none⟩, []⟩])) (.keep [1, 2, 4, 5]))) (.seq (.reg ([⟨some 11, .move (.tmp 5), none⟩, ⟨some 12, .binOp .add 3 (.tmp 11) (.const (.int .i64 64)) 3, none⟩, ⟨some 5, .assign (.tmp 12), none⟩])) (.keep [1, 2, 4, 5]))))))) (.seq (.seq (.reg ([⟨some 20, .load 24 (.tmp 2), none⟩, ⟨none, .store 24 (.tmp 4) (.tmp 20), none⟩])) (.keep [4])) .ret)))
attribute [go_sem ↓] c_ref08_after
def h_ref08_after : List Hint := [⟨[], [1, 2, 4], []⟩, ⟨[], [1, 2, 4, 5], []⟩, ⟨[], [1, 2, 4, 5], []⟩, ⟨[], [1, 2, 4, 5, 10], []⟩, ⟨[], [1, 2, 4, 5], []⟩, ⟨[], [1, 2, 4, 5], []⟩, ⟨[], [4], []⟩]
theorem b_ref08_after : Body Tryd.prog 70 [] h_ref08_after c_ref08_after 21 [.cell 4 24] := body_of Tryd.func70 (by kernel_rfl) (by kernel_rfl) (by kernel_rfl) (by kernel_rfl)
def c_ref08_First : C := (.seq (.seq (.reg ([⟨some 0, .alloc 24, none⟩])) (.keep [0])) (.seq (.seq (.reg ([⟨some 1, .build 24 #[(0, (.const (.int .u32 1779033703))), (1, (.const (.int .u32 3144134277))), (2, (.const (.int .u32 1013904242))), (3, (.const (.int .u32 2773480762))), (4, (.const (.int .u32 1359893119))), (5, (.const (.int .u32 2600822924))), (6, (.const (.int .u32 528734635))), (7, (.const (.int .u32 1541459225)))], none⟩, ⟨none, .store 24 (.tmp 0) (.tmp 1), none⟩])) (.keep [0])) .ret))
attribute [go_sem ↓] c_ref08_First
def h_ref08_First : List Hint := [⟨[], [0], []⟩, ⟨[], [0], []⟩]
theorem b_ref08_First : Body Tryd.prog 71 [] h_ref08_First c_ref08_First 2 [.cell 0 24] := body_of Tryd.func71 (by kernel_rfl) (by kernel_rfl) (by kernel_rfl) (by kernel_rfl)
def c_sha_turns : C := (.seq (.seq (.reg ([⟨some 4, .assign (.const (.int .u32 0)), none⟩])) (.keep [0, 1])) (.seq (.seq (.reg ([⟨some 5, .assign (.const (.int .u32 0)), none⟩])) (.keep [0, 1, 5])) (.seq (.seq (.seq (.reg ([⟨some 8, .move (.tmp 1), none⟩, ⟨some 9, .call { callee := .builtin .len, args := #[(.tmp 8)], argTypes := #[124] }, none⟩, ⟨some 10, .move (.const (.int .i64 0)), none⟩])) (.keep [0, 5, 8, 9, 10])) (.block 0 (.loop [] [0, 5, 8, 9, 10] (.seq (.seq (.reg ([⟨some 11, .binOp .lss 3 (.tmp 10) (.tmp 9) 3, none⟩])) (.keep [0, 5, 8, 9, 10, 11])) (.seq (.cond (.tmp 11) .skip (.exit 0)) (.seq (.block 1 (.seq (.seq (.reg ([⟨some 12, .indexAddr 124 (.tmp 8) (.tmp 10), none⟩, ⟨some 13, .load 3 (.tmp 12), none⟩, ⟨some 7, .assign (.tmp 13), none⟩])) (.keep [0, 5, 7, 8, 9, 10])) (.seq (.reg ([⟨some 14, .move (.tmp 5), none⟩, ⟨some 15, .move (.tmp 0), none⟩, ⟨some 16, .move (.tmp 7), none⟩, ⟨some 17, .unOp .neg 3 (.tmp 16), none⟩, ⟨some 18, .call { callee := .value (.func 76), args := #[(.tmp 15), (.tmp 17)], argTypes := #[23, 3] }, none⟩, ⟨some 19, .binOp .xor 23 (.tmp 14) (.tmp 18) 23, none⟩, ⟨some 5, .assign (.tmp 19), none⟩])) (.keep [0, 5, 8, 9, 10])))) (.seq (.reg ([⟨some 20, .binOp .add 3 (.tmp 10) (.const (.int .i64 1)) 3, none⟩, ⟨some 10, .move (.tmp 20), none⟩])) (.keep [0, 5, 8, 9, 10])))))))) (.seq (.seq (.reg ([⟨some 21, .move (.tmp 5), none⟩, ⟨some 4, .assign (.tmp 21), none⟩])) (.keep [4])) .ret))))
attribute [go_sem ↓] c_sha_turns
def h_sha_turns : List Hint := [⟨[], [0, 1], []⟩, ⟨[], [0, 1, 5], []⟩, ⟨[], [0, 5, 8, 9, 10], []⟩, ⟨[], [0, 5, 8, 9, 10], []⟩, ⟨[], [0, 5, 8, 9, 10, 11], []⟩, ⟨[], [0, 5, 7, 8, 9, 10], []⟩, ⟨[], [0, 5, 8, 9, 10], []⟩, ⟨[], [0, 5, 8, 9, 10], []⟩, ⟨[], [4], []⟩]
theorem b_sha_turns : Body Tryd.prog 72 [] h_sha_turns c_sha_turns 22 [.tmp 4] := body_of Tryd.func72 (by kernel_rfl) (by kernel_rfl) (by kernel_rfl) (by kernel_rfl)
def c_ref08_turn : C := (.seq (.seq (.reg ([⟨some 4, .assign (.const (.int .u32 0)), none⟩])) (.keep [0, 1])) (.seq (.seq (.draw ([⟨⟨some 5, .move (.tmp 0), none⟩, []⟩, ⟨⟨some 6, .move (.tmp 1), none⟩, [0]⟩, ⟨⟨some 7, .binOp .shr 23 (.tmp 5) (.tmp 6) 3, none⟩, []⟩, ⟨⟨some 8, .move (.tmp 0), none⟩, [0, 1, 2]⟩, ⟨⟨some 9, .move (.tmp 1), none⟩, [0, 1, 2, 3]⟩, ⟨⟨some 10, .binOp .sub 3 (.const (.int .i64 32)) (.tmp 9) 3, none⟩, [0, 1, 2, 3]⟩, ⟨⟨some 11, .binOp .shl 23 (.tmp 8) (.tmp 10) 3, none⟩, [0, 1, 2]⟩, ⟨⟨some 12, .binOp .or 23 (.tmp 7) (.tmp 11) 23, none⟩, []⟩, ⟨⟨some 4, .assign (.tmp 12), none⟩, []⟩])) (.keep [4])) .ret))
attribute [go_sem ↓] c_ref08_turn
def h_ref08_turn : List Hint := [⟨[], [0, 1], []⟩, ⟨[], [4], []⟩]
theorem b_ref08_turn : Body Tryd.prog 73 [] h_ref08_turn c_ref08_turn 13 [.tmp 4] := body_of Tryd.func73 (by kernel_rfl) (by kernel_rfl) (by kernel_rfl) (by kernel_rfl)
def c_ref08_constants : C := (.seq (.seq (.reg ([⟨some 0, .assign (.const (.slice none 0 0)), none⟩])) (.keep [])) (.seq (.seq (.reg ([⟨some 1, .buildSlice 119 64 #[(0, (.const (.int .u32 1116352408))), (1, (.const (.int .u32 1899447441))), (2, (.const (.int .u32 3049323471))), (3, (.const (.int .u32 3921009573))), (4, (.const (.int .u32 961987163))), (5, (.const (.int .u32 1508970993))), (6, (.const (.int .u32 2453635748))), (7, (.const (.int .u32 2870763221))), (8, (.const (.int .u32 3624381080))), (9, (.const (.int .u32 310598401))), (10, (.const (.int .u32 607225278))), (11, (.const (.int .u32 1426881987))), (12, (.const (.int .u32 1925078388))), (13, (.const (.int .u32 2162078206))), (14, (.const (.int .u32 2614888103))), (15, (.const (.int .u32 3248222580))), (16, (.const (.int .u32 3835390401))), (17, (.const (.int .u32 4022224774))), (18, (.const (.int .u32 264347078))), (19, (.const (.int .u32 604807628))), (20, (.const (.int .u32 770255983))), (21, (.const (.int .u32 1249150122))), (22, (.const (.int .u32 1555081692))), (23, (.const (.int .u32 1996064986))), (24, (.const (.int .u32 2554220882))), (25, (.const (.int .u32 2821834349))), (26, (.const (.int .u32 2952996808))), (27, (.const (.int .u32 3210313671))), (28, (.const (.int .u32 3336571891))), (29, (.const (.int .u32 3584528711))), (30, (.const (.int .u32 113926993))), (31, (.const (.int .u32 338241895))), (32, (.const (.int .u32 666307205))), (33, (.const (.int .u32 773529912))), (34, (.const (.int .u32 1294757372))), (35, (.const (.int .u32 1396182291))), (36, (.const (.int .u32 1695183700))), (37, (.const (.int .u32 1986661051))), (38, (.const (.int .u32 2177026350))), (39, (.const (.int .u32 2456956037))), (40, (.const (.int .u32 2730485921))), (41, (.const (.int .u32 2820302411))), (42, (.const (.int .u32 3259730800))), (43, (.const (.int .u32 3345764771))), (44, (.const (.int .u32 3516065817))), (45, (.const (.int .u32 3600352804))), (46, (.const (.int .u32 4094571909))), (47, (.const (.int .u32 275423344))), (48, (.const (.int .u32 430227734))), (49, (.const (.int .u32 506948616))), (50, (.const (.int .u32 659060556))), (51, (.const (.int .u32 883997877))), (52, (.const (.int .u32 958139571))), (53, (.const (.int .u32 1322822218))), (54, (.const (.int .u32 1537002063))), (55, (.const (.int .u32 1747873779))), (56, (.const (.int .u32 1955562222))), (57, (.const (.int .u32 2024104815))), (58, (.const (.int .u32 2227730452))), (59, (.const (.int .u32 2361852424))), (60, (.const (.int .u32 2428436474))), (61, (.const (.int .u32 2756734187))), (62, (.const (.int .u32 3204031479))), (63, (.const (.int .u32 3329325298)))], none⟩, ⟨some 0, .assign (.tmp 1), none⟩])) (.keep [0])) .ret))
attribute [go_sem ↓] c_ref08_constants
def h_ref08_constants : List Hint := [⟨[], [], []⟩, ⟨[], [0], []⟩]
theorem b_ref08_constants : Body Tryd.prog 74 [] h_ref08_constants c_ref08_constants 2 [.tmp 0] := body_of Tryd.func74 (by kernel_rfl) (by kernel_rfl) (by kernel_rfl) (by kernel_rfl)
-- math/bits.RotateLeft32
def c_bits_RotateLeft32 : C := (.seq (.seq (.reg ([⟨some 4, .assign (.const (.int .u32 0)), none⟩])) (.keep [0, 1])) (.seq (.seq (.reg ([⟨some 6, .move (.tmp 1), none⟩, ⟨some 7, .convert 3 112 (.tmp 6), none⟩, ⟨some 8, .binOp .and 112 (.tmp 7) (.const (.int .u64 31)) 112, none⟩, ⟨some 5, .assign (.tmp 8), none⟩])) (.keep [0, 5])) (.seq (.seq (.reg ([⟨some 9, .move (.tmp 0), none⟩, ⟨some 10, .move (.tmp 5), none⟩, ⟨some 11, .binOp .shl 23 (.tmp 9) (.tmp 10) 112, none⟩, ⟨some 12, .move (.tmp 0), none⟩, ⟨some 13, .move (.tmp 5), none⟩, ⟨some 14, .binOp .sub 112 (.const (.int .u64 32)) (.tmp 13) 112, none⟩, ⟨some 15, .binOp .shr 23 (.tmp 12) (.tmp 14) 112, none⟩, ⟨some 16, .binOp .or 23 (.tmp 11) (.tmp 15) 23, none⟩, ⟨some 4, .assign (.tmp 16), none⟩])) (.keep [4])) .ret)))
attribute [go_sem ↓] c_bits_RotateLeft32
def h_bits_RotateLeft32 : List Hint := [⟨[], [0, 1], []⟩, ⟨[], [0, 5], []⟩, ⟨[], [4], []⟩]
theorem b_bits_RotateLeft32 : Body Tryd.prog 76 [] h_bits_RotateLeft32 c_bits_RotateLeft32 17 [.tmp 4] := body_of Tryd.func76 (by kernel_rfl) (by kernel_rfl) (by kernel_rfl) (by kernel_rfl)
end Go.Proofs.YtgkmhmhbepfiaaaDoor.Pm
set_option linter.all false
set_option maxRecDepth 100000
namespace Go.Proofs.YtgkmhmhbepfiaaaDoor.Pm
open Go Go.RowKit Go.ChangeShapes Go.WideShapes Go.ChangeAt
theorem own : ownKnob Tryd.prog.godebug = none := by kernel_rfl
theorem laid : laidOutB Tryd.prog = true := by kernel_rfl
end Go.Proofs.YtgkmhmhbepfiaaaDoor.Pm
set_option linter.all false
set_option maxRecDepth 100000
namespace Go.Proofs.YtgkmhmhbepfiaaaDoor.Pm
open Go Go.RowKit
section
variable {d t e sz nb : Nat} {z xs : List T} {x : T}
theorem und {i : TI} (h : X.ti t = some i) : ∃ k, Tryd.prog.underlying t = some k ∧ dOK k i.d = true := ((tiOf_ok Tryd.prog).ok t i h).und
theorem und_sl (h : X.ti t = some ⟨.slice e, sz, nb, z⟩) : Tryd.prog.underlying t = some (.slice e) := by
  obtain ⟨k, h1, h2⟩ := und h
  cases k <;> simp only [dOK, Bool.false_eq_true, beq_iff_eq] at h2
  rw [h1, h2]
theorem und_int {k : IntKind} (h : X.ti t = some ⟨.int k, sz, nb, z⟩) : Tryd.prog.underlying t = some (.int k) := by
  obtain ⟨k', h1, h2⟩ := und h
  cases k' <;> simp only [dOK, Bool.false_eq_true, beq_iff_eq] at h2
  rw [h1, h2]
theorem und_arr {n : Nat} (h : X.ti t = some ⟨.array n e, sz, nb, z⟩) : Tryd.prog.underlying t = some (.array n e) := by
  obtain ⟨k', h1, h2⟩ := und h
  cases k' <;> simp only [dOK, Bool.false_eq_true, Bool.and_eq_true, beq_iff_eq] at h2
  rw [h1, h2.1, h2.2]
theorem fits_sl (h : X.ti t = some ⟨.slice e, sz, nb, z⟩) (hf : Fits Tryd.prog (d + 1) t xs) : ∃ es, xs = [.sl es] ∧ es.length ≤ room ∧ ∀ y ∈ es, Fits Tryd.prog d e y := by
  simp only [Fits, und_sl h] at hf
  exact hf
theorem fits_int {k : IntKind} (h : X.ti t = some ⟨.int k, sz, nb, z⟩) (hf : Fits Tryd.prog (d + 1) t xs) : ∃ n, xs = [.i k n] ∧ k.min ≤ n ∧ n ≤ k.max := by
  simp only [Fits, und_int h] at hf
  exact hf
theorem arg_sl (h : X.ti t = some ⟨.slice e, sz, nb, z⟩) (ha : ArgFits Tryd.prog d t x) : Fits Tryd.prog d t [x] := by
  unfold ArgFits at ha
  rw [und_sl h] at ha
  exact ha
theorem arg_int {k : IntKind} (h : X.ti t = some ⟨.int k, sz, nb, z⟩) (ha : ArgFits Tryd.prog d t x) : Fits Tryd.prog d t [x] := by
  unfold ArgFits at ha
  rw [und_int h] at ha
  exact ha
theorem fits_i64' (h : X.ti t = some ⟨.int .i64, sz, nb, z⟩) (hf : Fits Tryd.prog (d + 1) t xs) : ∃ n : Int, xs = [.i .i64 n] ∧ -9223372036854775808 ≤ n ∧ n ≤ 9223372036854775807 := by
  obtain ⟨n, e, h0, h1⟩ := fits_int h hf
  simp [IntKind.min, IntKind.max, IntKind.signed, IntKind.bits] at h0 h1
  exact ⟨n, e, h0, h1⟩
theorem fits_u8' (h : X.ti t = some ⟨.int .u8, sz, nb, z⟩) (hf : Fits Tryd.prog (d + 1) t xs) : ∃ b : BitVec 8, xs = [.i .u8 b.toNat] := by
  obtain ⟨n, e, h0, h1⟩ := fits_int h hf
  simp [IntKind.min, IntKind.max, IntKind.signed, IntKind.bits] at h0 h1
  exact ⟨BitVec.ofInt 8 n, by rw [← bv8_of h0 (by omega)]; exact e⟩
theorem list_form {α : Type} {f : α → List T} : ∀ {es : List (List T)}, (∀ y ∈ es, ∃ a, y = f a) → ∃ al : List α, es = al.map f
  | [], _ => ⟨[], rfl⟩
  | y :: es, h => by
    obtain ⟨a, rfl⟩ := h y (by simp)
    obtain ⟨al, rfl⟩ := list_form (es := es) fun y hy => h y (by simp [hy])
    exact ⟨a :: al, rfl⟩
theorem list_form2 {α : Type} {f : α → List T} {p : α → Prop} : ∀ {es : List (List T)}, (∀ y ∈ es, ∃ a, y = f a ∧ p a) → ∃ al : List α, es = al.map f ∧ ∀ a ∈ al, p a
  | [], _ => ⟨[], rfl, by simp⟩
  | y :: es, h => by
    obtain ⟨a, rfl, ha⟩ := h y (by simp)
    obtain ⟨al, rfl, hp⟩ := list_form2 (es := es) fun y hy => h y (by simp [hy])
    exact ⟨a :: al, rfl, fun b hb => by rcases List.mem_cons.1 hb with rfl | hb; exact ha; exact hp b hb⟩
theorem fits_bs {sz' nb' : Nat} {z' : List T} (h : X.ti t = some ⟨.slice e, sz, nb, z⟩) (h' : X.ti e = some ⟨.int .u8, sz', nb', z'⟩) (hf : Fits Tryd.prog (d + 2) t xs) : ∃ bs, xs = [.sl (bT bs)] ∧ bs.length ≤ room := by
  obtain ⟨es, e1, e2, e3⟩ := fits_sl h hf
  obtain ⟨bs, rfl⟩ := list_form (f := fun b : BitVec 8 => [T.i .u8 b.toNat]) fun y hy => fits_u8' h' (e3 y hy)
  exact ⟨bs, e1, by simpa using e2⟩
end
end Go.Proofs.YtgkmhmhbepfiaaaDoor.Pm
