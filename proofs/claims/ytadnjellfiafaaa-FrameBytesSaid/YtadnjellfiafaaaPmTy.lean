/- Facts on the program's types. Printed by a program. No law of Go's is stated here. -/
import Derived.Test.YtadnjellfiafaaaPmY
import Derived.Test.YtadnjellfiafaaaRows
import Derived.KernelRfl
set_option linter.all false
set_option maxRecDepth 100000
namespace Go.Proofs.Ytadnjellfiafaaa.Pm
open Go Go.RowKit

noncomputable abbrev X : Cx := Xof Try.prog
@[go_sem] theorem ti2 : X.ti 2 = some ⟨.int .i64, 1, 8, [.i .i64 0]⟩ := by kernel_rfl
@[go_sem] theorem ti3 : X.ti 3 = some ⟨.int .i64, 1, 8, [.i .i64 0]⟩ := by kernel_rfl
@[go_sem] theorem ti4 : X.ti 4 = some ⟨.bool, 1, 1, [.b false]⟩ := by kernel_rfl
@[go_sem] theorem ti5 : X.ti 5 = some ⟨.int .u8, 1, 1, [.i .u8 0]⟩ := by kernel_rfl
@[go_sem] theorem ti6 : X.ti 6 = some ⟨.int .u8, 1, 1, [.i .u8 0]⟩ := by kernel_rfl
@[go_sem] theorem ti7 : X.ti 7 = some ⟨.struct [(0, 2), (1, 3), (2, 4), (3, 6)], 4, 24, [.i .i64 0, .i .i64 0, .b false, .i .u8 0]⟩ := by kernel_rfl
@[go_sem] theorem ti8 : X.ti 8 = some ⟨.struct [(0, 2), (1, 3), (2, 4), (3, 6)], 4, 24, [.i .i64 0, .i .i64 0, .b false, .i .u8 0]⟩ := by kernel_rfl
@[go_sem] theorem ti9 : X.ti 9 = some ⟨.str, 1, 16, [.s ⟨#[]⟩]⟩ := by kernel_rfl
@[go_sem] theorem ti10 : X.ti 10 = some ⟨.str, 1, 16, [.s ⟨#[]⟩]⟩ := by kernel_rfl
@[go_sem] theorem ti11 : X.ti 11 = some ⟨.str, 1, 16, [.s ⟨#[]⟩]⟩ := by kernel_rfl
@[go_sem] theorem ti12 : X.ti 12 = some ⟨.int .u64, 1, 8, [.i .u64 0]⟩ := by kernel_rfl
@[go_sem] theorem ti13 : X.ti 13 = some ⟨.struct [(0, 9), (1, 12)], 2, 24, [.s ⟨#[]⟩, .i .u64 0]⟩ := by kernel_rfl
@[go_sem] theorem ti14 : X.ti 14 = some ⟨.struct [(0, 9), (1, 12)], 2, 24, [.s ⟨#[]⟩, .i .u64 0]⟩ := by kernel_rfl
@[go_sem] theorem ti21 : X.ti 21 = some ⟨.int .i32, 1, 4, [.i .i32 0]⟩ := by kernel_rfl
@[go_sem] theorem ti22 : X.ti 22 = some ⟨.slice 5, 1, 24, [.sl []]⟩ := by kernel_rfl
@[go_sem] theorem ti23 : X.ti 23 = some ⟨.int .u32, 1, 4, [.i .u32 0]⟩ := by kernel_rfl
@[go_sem] theorem ti25 : X.ti 25 = some ⟨.int .i64, 1, 8, [.i .i64 0]⟩ := by kernel_rfl
@[go_sem] theorem ti38 : X.ti 38 = some ⟨.array 4 5, 4, 4, [.i .u8 0, .i .u8 0, .i .u8 0, .i .u8 0]⟩ := by kernel_rfl
@[go_sem] theorem ti40 : X.ti 40 = some ⟨.slice 51, 1, 24, [.sl []]⟩ := by kernel_rfl
@[go_sem] theorem ti50 : X.ti 50 = some ⟨.struct [(0, 3), (1, 22)], 2, 32, [.i .i64 0, .sl []]⟩ := by kernel_rfl
@[go_sem] theorem ti51 : X.ti 51 = some ⟨.struct [(0, 3), (1, 22)], 2, 32, [.i .i64 0, .sl []]⟩ := by kernel_rfl
@[go_sem] theorem ti73 : X.ti 73 = some ⟨.int .u64, 1, 8, [.i .u64 0]⟩ := by kernel_rfl
@[go_sem] theorem ti83 : X.ti 83 = some ⟨.slice 22, 1, 24, [.sl []]⟩ := by kernel_rfl
@[go_sem] theorem ti84 : X.ti 84 = some ⟨.array 256 23, 256, 1024, List.replicate 256 (.i .u32 0)⟩ := by kernel_rfl
@[go_sem] theorem ti97 : X.ti 97 = some ⟨.array 0 16, 0, 0, []⟩ := by kernel_rfl
@[go_sem] theorem ti98 : X.ti 98 = some ⟨.struct [(0, 97)], 0, 0, []⟩ := by kernel_rfl
@[go_sem] theorem ti99 : X.ti 99 = some ⟨.struct [(0, 97)], 0, 0, []⟩ := by kernel_rfl
@[go_sem] theorem ti101 : X.ti 101 = some ⟨.int .u8, 1, 1, [.i .u8 0]⟩ := by kernel_rfl
@[go_sem] theorem ti102 : X.ti 102 = some ⟨.int .u8, 1, 1, [.i .u8 0]⟩ := by kernel_rfl
@[go_sem] theorem ti105 : X.ti 105 = some ⟨.int .i32, 1, 4, [.i .i32 0]⟩ := by kernel_rfl
@[go_sem] theorem ti106 : X.ti 106 = some ⟨.int .i32, 1, 4, [.i .i32 0]⟩ := by kernel_rfl
theorem mixed : Try.prog.follows .mixedOrders = true := by kernel_rfl
end Go.Proofs.Ytadnjellfiafaaa.Pm
