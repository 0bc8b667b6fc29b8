/- crc: the types and the bodies, in the form in which they are walked. Printed by a program (mk.py). No law of Go's is stated here. -/
import Derived.Test.YtadnjellfiafaaaPmY
import Derived.Test.YtadnjellfiafaaaPmCp
import Derived.Test.YtadnjellfiafaaaRows
import Derived.KernelRfl
set_option linter.all false
set_option maxRecDepth 100000
namespace Go.Proofs.Ytadnjellfiafaaa.Pm
open Go Go.RowKit

noncomputable abbrev X : Cx := Xof Try.prog

theorem ti2 : X.ti 2 = some ⟨.int .i64, 1, 8, [.i .i64 0]⟩ := by kernel_rfl
theorem ti3 : X.ti 3 = some ⟨.int .i64, 1, 8, [.i .i64 0]⟩ := by kernel_rfl
theorem ti4 : X.ti 4 = some ⟨.bool, 1, 1, [.b false]⟩ := by kernel_rfl
theorem ti5 : X.ti 5 = some ⟨.int .u8, 1, 1, [.i .u8 0]⟩ := by kernel_rfl
theorem ti6 : X.ti 6 = some ⟨.int .u8, 1, 1, [.i .u8 0]⟩ := by kernel_rfl
theorem ti7 : X.ti 7 = some ⟨.struct [(0, 2), (1, 3), (2, 4), (3, 6)], 4, 24, [.i .i64 0, .i .i64 0, .b false, .i .u8 0]⟩ := by kernel_rfl
theorem ti8 : X.ti 8 = some ⟨.struct [(0, 2), (1, 3), (2, 4), (3, 6)], 4, 24, [.i .i64 0, .i .i64 0, .b false, .i .u8 0]⟩ := by kernel_rfl
theorem ti9 : X.ti 9 = some ⟨.str, 1, 16, [.s ⟨#[]⟩]⟩ := by kernel_rfl
theorem ti10 : X.ti 10 = some ⟨.str, 1, 16, [.s ⟨#[]⟩]⟩ := by kernel_rfl
theorem ti11 : X.ti 11 = some ⟨.str, 1, 16, [.s ⟨#[]⟩]⟩ := by kernel_rfl
theorem ti12 : X.ti 12 = some ⟨.int .u64, 1, 8, [.i .u64 0]⟩ := by kernel_rfl
theorem ti13 : X.ti 13 = some ⟨.struct [(0, 9), (1, 12)], 2, 24, [.s ⟨#[]⟩, .i .u64 0]⟩ := by kernel_rfl
theorem ti14 : X.ti 14 = some ⟨.struct [(0, 9), (1, 12)], 2, 24, [.s ⟨#[]⟩, .i .u64 0]⟩ := by kernel_rfl
theorem ti21 : X.ti 21 = some ⟨.int .i32, 1, 4, [.i .i32 0]⟩ := by kernel_rfl
theorem ti22 : X.ti 22 = some ⟨.slice 5, 1, 24, [.sl []]⟩ := by kernel_rfl
theorem ti23 : X.ti 23 = some ⟨.int .u32, 1, 4, [.i .u32 0]⟩ := by kernel_rfl
theorem ti25 : X.ti 25 = some ⟨.int .i64, 1, 8, [.i .i64 0]⟩ := by kernel_rfl
theorem ti38 : X.ti 38 = some ⟨.array 4 5, 4, 4, [.i .u8 0, .i .u8 0, .i .u8 0, .i .u8 0]⟩ := by kernel_rfl
theorem ti40 : X.ti 40 = some ⟨.slice 51, 1, 24, [.sl []]⟩ := by kernel_rfl
theorem ti50 : X.ti 50 = some ⟨.struct [(0, 3), (1, 22)], 2, 32, [.i .i64 0, .sl []]⟩ := by kernel_rfl
theorem ti51 : X.ti 51 = some ⟨.struct [(0, 3), (1, 22)], 2, 32, [.i .i64 0, .sl []]⟩ := by kernel_rfl
theorem ti73 : X.ti 73 = some ⟨.int .u64, 1, 8, [.i .u64 0]⟩ := by kernel_rfl
theorem ti83 : X.ti 83 = some ⟨.slice 22, 1, 24, [.sl []]⟩ := by kernel_rfl
theorem ti84 : X.ti 84 = some ⟨.array 256 23, 256, 1024, List.replicate 256 (.i .u32 0)⟩ := by kernel_rfl
theorem ti97 : X.ti 97 = some ⟨.array 0 16, 0, 0, []⟩ := by kernel_rfl
theorem ti98 : X.ti 98 = some ⟨.struct [(0, 97)], 0, 0, []⟩ := by kernel_rfl
theorem ti99 : X.ti 99 = some ⟨.struct [(0, 97)], 0, 0, []⟩ := by kernel_rfl
theorem ti101 : X.ti 101 = some ⟨.int .u8, 1, 1, [.i .u8 0]⟩ := by kernel_rfl
theorem ti102 : X.ti 102 = some ⟨.int .u8, 1, 1, [.i .u8 0]⟩ := by kernel_rfl
theorem ti105 : X.ti 105 = some ⟨.int .i32, 1, 4, [.i .i32 0]⟩ := by kernel_rfl
theorem ti106 : X.ti 106 = some ⟨.int .i32, 1, 4, [.i .i32 0]⟩ := by kernel_rfl

/-- siding/sidinglaw02.CrcSums -/
def h3 : List Hint := []
def c3 : C :=
 (.seq (.reg [⟨some 6, .assign (.const (.bool false)), none⟩])
 (.seq (.seq (.reg [⟨some 19, .move (.tmp 0), none⟩, ⟨some 20, .call { callee := .value (.func 14), args := #[(.tmp 19)], argTypes := #[22] }, none⟩])
 (.cond (.tmp 20) (.seq (.reg [⟨some 6, .assign (.const (.bool true)), none⟩])
 .ret) .skip))
 (.seq (.reg [⟨some 22, .move (.tmp 0), none⟩, ⟨some 23, .call { callee := .value (.func 15), args := #[(.tmp 22)], argTypes := #[22] }, none⟩, ⟨some 21, .move (.tmp 23), none⟩, ⟨some 24, .extract (.tmp 21) 0, none⟩, ⟨some 25, .extract (.tmp 21) 1, none⟩, ⟨some 7, .assign (.tmp 24), none⟩, ⟨some 8, .assign (.tmp 25), none⟩])
 (.seq (.reg [⟨some 27, .move (.tmp 0), none⟩, ⟨some 28, .call { callee := .value (.func 16), args := #[(.tmp 27)], argTypes := #[22] }, none⟩, ⟨some 26, .move (.tmp 28), none⟩, ⟨some 29, .extract (.tmp 26) 0, none⟩, ⟨some 30, .extract (.tmp 26) 1, none⟩, ⟨some 9, .assign (.tmp 29), none⟩, ⟨some 10, .assign (.tmp 30), none⟩])
 (.seq (.reg [⟨some 32, .move (.tmp 1), none⟩, ⟨some 33, .move (.tmp 0), none⟩, ⟨some 34, .call { callee := .value (.func 17), args := #[(.tmp 32), (.tmp 33)], argTypes := #[23, 22] }, none⟩, ⟨some 31, .move (.tmp 34), none⟩, ⟨some 35, .extract (.tmp 31) 0, none⟩, ⟨some 36, .extract (.tmp 31) 1, none⟩, ⟨some 11, .assign (.tmp 35), none⟩, ⟨some 12, .assign (.tmp 36), none⟩])
 (.seq (.reg [⟨some 38, .move (.tmp 1), none⟩, ⟨some 39, .move (.tmp 0), none⟩, ⟨some 40, .call { callee := .value (.func 18), args := #[(.tmp 38), (.tmp 39)], argTypes := #[23, 22] }, none⟩, ⟨some 37, .move (.tmp 40), none⟩, ⟨some 41, .extract (.tmp 37) 0, none⟩, ⟨some 42, .extract (.tmp 37) 1, none⟩, ⟨some 13, .assign (.tmp 41), none⟩, ⟨some 14, .assign (.tmp 42), none⟩])
 (.seq (.reg [⟨some 44, .move (.tmp 2), none⟩, ⟨some 45, .call { callee := .value (.func 19), args := #[(.tmp 44)], argTypes := #[3] }, none⟩, ⟨some 43, .move (.tmp 45), none⟩, ⟨some 46, .extract (.tmp 43) 0, none⟩, ⟨some 47, .extract (.tmp 43) 1, none⟩, ⟨some 15, .assign (.tmp 46), none⟩, ⟨some 16, .assign (.tmp 47), none⟩])
 (.seq (.reg [⟨some 49, .move (.tmp 2), none⟩, ⟨some 50, .call { callee := .value (.func 20), args := #[(.tmp 49)], argTypes := #[3] }, none⟩, ⟨some 48, .move (.tmp 50), none⟩, ⟨some 51, .extract (.tmp 48) 0, none⟩, ⟨some 52, .extract (.tmp 48) 1, none⟩, ⟨some 17, .assign (.tmp 51), none⟩, ⟨some 18, .assign (.tmp 52), none⟩])
 (.seq (.reg [⟨some 53, .move (.tmp 7), none⟩, ⟨some 54, .move (.tmp 9), none⟩, ⟨some 55, .binOp .eql 23 (.tmp 53) (.tmp 54) 23, none⟩, ⟨some 56, .move (.tmp 55), none⟩, ⟨some 57, .move (.tmp 8), some (56, true)⟩, ⟨some 58, .move (.tmp 10), some (56, true)⟩, ⟨some 59, .binOp .eql 3 (.tmp 57) (.tmp 58) 3, some (56, true)⟩, ⟨some 60, .pick (.tmp 56) (.tmp 59) (.const (.bool false)), none⟩, ⟨some 61, .move (.tmp 60), none⟩, ⟨some 62, .move (.tmp 11), some (61, true)⟩, ⟨some 63, .move (.tmp 13), some (61, true)⟩, ⟨some 64, .binOp .eql 23 (.tmp 62) (.tmp 63) 23, some (61, true)⟩, ⟨some 65, .pick (.tmp 61) (.tmp 64) (.const (.bool false)), none⟩, ⟨some 66, .move (.tmp 65), none⟩, ⟨some 67, .move (.tmp 12), some (66, true)⟩, ⟨some 68, .move (.tmp 14), some (66, true)⟩, ⟨some 69, .binOp .eql 3 (.tmp 67) (.tmp 68) 3, some (66, true)⟩, ⟨some 70, .pick (.tmp 66) (.tmp 69) (.const (.bool false)), none⟩, ⟨some 71, .move (.tmp 70), none⟩, ⟨some 72, .move (.tmp 15), some (71, true)⟩, ⟨some 73, .move (.tmp 17), some (71, true)⟩, ⟨some 74, .binOp .eql 23 (.tmp 72) (.tmp 73) 23, some (71, true)⟩, ⟨some 75, .pick (.tmp 71) (.tmp 74) (.const (.bool false)), none⟩, ⟨some 76, .move (.tmp 75), none⟩, ⟨some 77, .move (.tmp 16), some (76, true)⟩, ⟨some 78, .move (.tmp 18), some (76, true)⟩, ⟨some 79, .binOp .eql 3 (.tmp 77) (.tmp 78) 3, some (76, true)⟩, ⟨some 80, .pick (.tmp 76) (.tmp 79) (.const (.bool false)), none⟩, ⟨some 6, .assign (.tmp 80), none⟩])
 .ret)))))))))
theorem b3 : Body Try.prog 3 [] h3 c3 Try.f3.ntmps Try.f3.results.toList := body_of Try.func3 (by kernel_rfl) (by kernel_rfl) rfl rfl

/-- siding/sidingref02.Long -/
def h14 : List Hint := []
def c14 : C :=
 (.seq (.reg [⟨some 2, .assign (.const (.bool false)), none⟩])
 (.seq (.reg [⟨some 3, .move (.tmp 0), none⟩, ⟨some 4, .call { callee := .builtin .len, args := #[(.tmp 3)], argTypes := #[22] }, none⟩, ⟨some 5, .binOp .gtr 3 (.tmp 4) (.const (.int .i64 1000)) 3, none⟩, ⟨some 6, .move (.tmp 5), none⟩, ⟨some 7, .move (.tmp 0), some (6, true)⟩, ⟨some 8, .call { callee := .builtin .len, args := #[(.tmp 7)], argTypes := #[22] }, some (6, true)⟩, ⟨some 9, .binOp .leq 3 (.tmp 8) (.const (.int .i64 20000)) 3, some (6, true)⟩, ⟨some 10, .pick (.tmp 6) (.tmp 9) (.const (.bool false)), none⟩, ⟨some 11, .move (.tmp 10), none⟩, ⟨some 12, .move (.tmp 0), some (11, false)⟩, ⟨some 13, .call { callee := .builtin .len, args := #[(.tmp 12)], argTypes := #[22] }, some (11, false)⟩, ⟨some 14, .binOp .gtr 3 (.tmp 13) (.const (.int .i64 21000)) 3, some (11, false)⟩, ⟨some 15, .pick (.tmp 11) (.const (.bool true)) (.tmp 14), none⟩, ⟨some 2, .assign (.tmp 15), none⟩])
 .ret))
theorem b14 : Body Try.prog 14 [] h14 c14 Try.f14.ntmps Try.f14.results.toList := body_of Try.func14 (by kernel_rfl) (by kernel_rfl) rfl rfl

/-- siding/crc.Sum -/
def h15 : List Hint := []
def c15 : C :=
 (.seq (.reg [⟨some 2, .assign (.const (.int .u32 0)), none⟩, ⟨some 3, .assign (.const (.int .i64 0)), none⟩])
 (.seq (.reg [⟨some 4, .move (.tmp 0), none⟩, ⟨some 5, .call { callee := .value (.func 17), args := #[(.const (.int .u32 0)), (.tmp 4)], argTypes := #[23, 22] }, none⟩, ⟨some 6, .extract (.tmp 5) 0, none⟩, ⟨some 7, .extract (.tmp 5) 1, none⟩, ⟨some 2, .assign (.tmp 6), none⟩, ⟨some 3, .assign (.tmp 7), none⟩])
 .ret))
theorem b15 : Body Try.prog 15 [] h15 c15 Try.f15.ntmps Try.f15.results.toList := body_of Try.func15 (by kernel_rfl) (by kernel_rfl) rfl rfl

/-- siding/sidingref02.Sum -/
def h16 : List Hint := []
def c16 : C :=
 (.seq (.reg [⟨some 2, .assign (.const (.int .u32 0)), none⟩, ⟨some 3, .assign (.const (.int .i64 0)), none⟩])
 (.seq (.seq (.reg [⟨some 4, .move (.tmp 0), none⟩, ⟨some 5, .call { callee := .builtin .len, args := #[(.tmp 4)], argTypes := #[22] }, none⟩, ⟨some 6, .binOp .gtr 3 (.tmp 5) (.const (.int .i64 20000)) 3, none⟩])
 (.cond (.tmp 6) (.seq (.reg [⟨some 2, .assign (.const (.int .u32 0)), none⟩, ⟨some 3, .assign (.const (.int .i64 4)), none⟩])
 .ret) .skip))
 (.seq (.reg [⟨some 7, .move (.tmp 0), none⟩, ⟨some 8, .call { callee := .value (.func 42), args := #[(.tmp 7)], argTypes := #[22] }, none⟩, ⟨some 2, .assign (.tmp 8), none⟩, ⟨some 3, .assign (.const (.int .i64 0)), none⟩])
 .ret)))
theorem b16 : Body Try.prog 16 [] h16 c16 Try.f16.ntmps Try.f16.results.toList := body_of Try.func16 (by kernel_rfl) (by kernel_rfl) rfl rfl

/-- siding/crc.Update -/
def h17 : List Hint := []
def c17 : C :=
 (.seq (.reg [⟨some 4, .assign (.const (.int .u32 0)), none⟩, ⟨some 5, .assign (.const (.int .i64 0)), none⟩])
 (.seq (.seq (.reg [⟨some 6, .move (.tmp 1), none⟩, ⟨some 7, .call { callee := .builtin .len, args := #[(.tmp 6)], argTypes := #[22] }, none⟩, ⟨some 8, .binOp .gtr 3 (.tmp 7) (.const (.int .i64 20000)) 3, none⟩])
 (.cond (.tmp 8) (.seq (.reg [⟨some 4, .assign (.const (.int .u32 0)), none⟩, ⟨some 5, .assign (.const (.int .i64 4)), none⟩])
 .ret) .skip))
 (.seq (.reg [⟨some 9, .move (.tmp 0), none⟩, ⟨some 10, .unOp .xor 23 (.tmp 9), none⟩, ⟨some 11, .move (.tmp 1), none⟩, ⟨some 12, .buildSlice 83 1 #[(0, (.tmp 11))], none⟩, ⟨some 13, .call { callee := .value (.func 43), args := #[(.tmp 10), (.tmp 12)], argTypes := #[23, 83] }, none⟩, ⟨some 14, .unOp .xor 23 (.tmp 13), none⟩, ⟨some 4, .assign (.tmp 14), none⟩, ⟨some 5, .assign (.const (.int .i64 0)), none⟩])
 .ret)))
theorem b17 : Body Try.prog 17 [] h17 c17 Try.f17.ntmps Try.f17.results.toList := body_of Try.func17 (by kernel_rfl) (by kernel_rfl) rfl rfl

/-- siding/sidingref02.Update -/
def h18 : List Hint := []
def c18 : C :=
 (.seq (.reg [⟨some 4, .assign (.const (.int .u32 0)), none⟩, ⟨some 5, .assign (.const (.int .i64 0)), none⟩])
 (.seq (.seq (.reg [⟨some 6, .move (.tmp 1), none⟩, ⟨some 7, .call { callee := .builtin .len, args := #[(.tmp 6)], argTypes := #[22] }, none⟩, ⟨some 8, .binOp .gtr 3 (.tmp 7) (.const (.int .i64 20000)) 3, none⟩])
 (.cond (.tmp 8) (.seq (.reg [⟨some 4, .assign (.const (.int .u32 0)), none⟩, ⟨some 5, .assign (.const (.int .i64 4)), none⟩])
 .ret) .skip))
 (.seq (.reg [⟨some 9, .move (.tmp 0), none⟩, ⟨some 10, .unOp .xor 23 (.tmp 9), none⟩, ⟨some 11, .move (.tmp 1), none⟩, ⟨some 12, .call { callee := .value (.func 44), args := #[(.tmp 10), (.tmp 11)], argTypes := #[23, 22] }, none⟩, ⟨some 13, .unOp .xor 23 (.tmp 12), none⟩, ⟨some 4, .assign (.tmp 13), none⟩, ⟨some 5, .assign (.const (.int .i64 0)), none⟩])
 .ret)))
theorem b18 : Body Try.prog 18 [] h18 c18 Try.f18.ntmps Try.f18.results.toList := body_of Try.func18 (by kernel_rfl) (by kernel_rfl) rfl rfl

/-- siding/crc.Row -/
def h19 : List Hint := []
def c19 : C :=
 (.seq (.reg [⟨some 2, .assign (.const (.int .u32 0)), none⟩, ⟨some 3, .assign (.const (.int .i64 0)), none⟩])
 (.seq (.seq (.reg [⟨some 4, .move (.tmp 0), none⟩, ⟨some 5, .binOp .lss 3 (.tmp 4) (.const (.int .i64 0)) 3, none⟩, ⟨some 6, .move (.tmp 5), none⟩, ⟨some 7, .move (.tmp 0), some (6, false)⟩, ⟨some 8, .binOp .gtr 3 (.tmp 7) (.const (.int .i64 255)) 3, some (6, false)⟩, ⟨some 9, .pick (.tmp 6) (.const (.bool true)) (.tmp 8), none⟩])
 (.cond (.tmp 9) (.seq (.reg [⟨some 2, .assign (.const (.int .u32 0)), none⟩, ⟨some 3, .assign (.const (.int .i64 2)), none⟩])
 .ret) .skip))
 (.seq (.reg [⟨some 10, .move (.tmp 0), none⟩, ⟨some 11, .convert 3 23 (.tmp 10), none⟩, ⟨some 12, .call { callee := .value (.func 45), args := #[(.tmp 11)], argTypes := #[23] }, none⟩, ⟨some 2, .assign (.tmp 12), none⟩, ⟨some 3, .assign (.const (.int .i64 0)), none⟩])
 .ret)))
theorem b19 : Body Try.prog 19 [] h19 c19 Try.f19.ntmps Try.f19.results.toList := body_of Try.func19 (by kernel_rfl) (by kernel_rfl) rfl rfl

/-- siding/sidingref02.Row -/
def h20 : List Hint := []
def c20 : C :=
 (.seq (.reg [⟨some 2, .assign (.const (.int .u32 0)), none⟩, ⟨some 3, .assign (.const (.int .i64 0)), none⟩])
 (.seq (.seq (.reg [⟨some 4, .move (.tmp 0), none⟩, ⟨some 5, .binOp .lss 3 (.tmp 4) (.const (.int .i64 0)) 3, none⟩, ⟨some 6, .move (.tmp 5), none⟩, ⟨some 7, .move (.tmp 0), some (6, false)⟩, ⟨some 8, .binOp .gtr 3 (.tmp 7) (.const (.int .i64 255)) 3, some (6, false)⟩, ⟨some 9, .pick (.tmp 6) (.const (.bool true)) (.tmp 8), none⟩])
 (.cond (.tmp 9) (.seq (.reg [⟨some 2, .assign (.const (.int .u32 0)), none⟩, ⟨some 3, .assign (.const (.int .i64 2)), none⟩])
 .ret) .skip))
 (.seq (.reg [⟨some 10, .move (.tmp 0), none⟩, ⟨some 11, .convert 3 23 (.tmp 10), none⟩, ⟨some 12, .call { callee := .value (.func 46), args := #[(.tmp 11), (.const (.int .u8 0))], argTypes := #[23, 5] }, none⟩, ⟨some 2, .assign (.tmp 12), none⟩, ⟨some 3, .assign (.const (.int .i64 0)), none⟩])
 .ret)))
theorem b20 : Body Try.prog 20 [] h20 c20 Try.f20.ntmps Try.f20.results.toList := body_of Try.func20 (by kernel_rfl) (by kernel_rfl) rfl rfl

/-- siding/sidingref02.Of -/
def h42 : List Hint := []
def c42 : C :=
 (.seq (.reg [⟨some 2, .assign (.const (.int .u32 0)), none⟩])
 (.seq (.reg [⟨some 3, .move (.tmp 0), none⟩, ⟨some 4, .call { callee := .value (.func 44), args := #[(.const (.int .u32 4294967295)), (.tmp 3)], argTypes := #[23, 22] }, none⟩, ⟨some 5, .unOp .xor 23 (.tmp 4), none⟩, ⟨some 2, .assign (.tmp 5), none⟩])
 .ret))
theorem b42 : Body Try.prog 42 [] h42 c42 Try.f42.ntmps Try.f42.results.toList := body_of Try.func42 (by kernel_rfl) (by kernel_rfl) rfl rfl

/-- siding/crc.run -/
def h43 : List Hint := [⟨[], [true, false, false, false, false, true, false, false, false, false, false, true, true, true, false, false, false, false, false, false, false, false, false, false, false, false, false, false, false, false, false, false, false, false, false], []⟩, ⟨[], [true, false, false, false, false, true, false, false, false, false, false, true, true, true, false, false, false, true, true, true, false, false, false, false, false, false, false, false, false, false, false, false, false, false, false], []⟩]
def c43 : C :=
 (.seq (.reg [⟨some 4, .assign (.const (.int .u32 0)), none⟩])
 (.seq (.reg [⟨some 10, .call { callee := .value (.func 59), args := #[], argTypes := #[] }, none⟩, ⟨some 5, .alloc 84, none⟩, ⟨none, .store 84 (.tmp 5) (.tmp 10), none⟩])
 (.seq (.seq (.reg [⟨some 11, .move (.tmp 1), none⟩, ⟨some 12, .call { callee := .builtin .len, args := #[(.tmp 11)], argTypes := #[83] }, none⟩, ⟨some 13, .move (.const (.int .i64 0)), none⟩])
 (.block 0 (.loop [] [true, false, false, false, false, true, false, false, false, false, false, true, true, true, false, false, false, false, false, false, false, false, false, false, false, false, false, false, false, false, false, false, false, false, false] (.seq (.reg [⟨some 14, .binOp .lss 3 (.tmp 13) (.tmp 12) 3, none⟩])
 (.seq (.cond (.tmp 14) .skip (.exit 0))
 (.seq (.block 1 (.seq (.reg [⟨some 15, .indexAddr 83 (.tmp 11) (.tmp 13), none⟩, ⟨some 16, .load 22 (.tmp 15), none⟩, ⟨some 7, .assign (.tmp 16), none⟩])
 (.seq (.reg [⟨some 17, .move (.tmp 7), none⟩, ⟨some 18, .call { callee := .builtin .len, args := #[(.tmp 17)], argTypes := #[22] }, none⟩, ⟨some 19, .move (.const (.int .i64 0)), none⟩])
 (.block 2 (.loop [] [true, false, false, false, false, true, false, false, false, false, false, true, true, true, false, false, false, true, true, true, false, false, false, false, false, false, false, false, false, false, false, false, false, false, false] (.seq (.reg [⟨some 20, .binOp .lss 3 (.tmp 19) (.tmp 18) 3, none⟩])
 (.seq (.cond (.tmp 20) .skip (.exit 2))
 (.seq (.block 3 (.seq (.reg [⟨some 21, .indexAddr 22 (.tmp 17) (.tmp 19), none⟩, ⟨some 22, .load 5 (.tmp 21), none⟩, ⟨some 9, .assign (.tmp 22), none⟩])
 (.reg [⟨some 23, .move (.tmp 0), none⟩, ⟨some 24, .binOp .shr 23 (.tmp 23) (.const (.int .u64 8)) 73, none⟩, ⟨some 25, .move (.tmp 0), none⟩, ⟨some 26, .convert 23 5 (.tmp 25), none⟩, ⟨some 27, .move (.tmp 9), none⟩, ⟨some 28, .binOp .xor 5 (.tmp 26) (.tmp 27) 5, none⟩, ⟨some 29, .indexAddr 84 (.tmp 5) (.tmp 28), none⟩, ⟨some 30, .load 23 (.tmp 29), none⟩, ⟨some 31, .binOp .xor 23 (.tmp 24) (.tmp 30) 23, none⟩, ⟨some 0, .assign (.tmp 31), none⟩])))
 (.reg [⟨some 32, .binOp .add 3 (.tmp 19) (.const (.int .i64 1)) 3, none⟩, ⟨some 19, .move (.tmp 32), none⟩])))))))))
 (.reg [⟨some 33, .binOp .add 3 (.tmp 13) (.const (.int .i64 1)) 3, none⟩, ⟨some 13, .move (.tmp 33), none⟩])))))))
 (.seq (.reg [⟨some 34, .move (.tmp 0), none⟩, ⟨some 4, .assign (.tmp 34), none⟩])
 .ret))))
theorem b43 : Body Try.prog 43 [] h43 c43 Try.f43.ntmps Try.f43.results.toList := body_of Try.func43 (by kernel_rfl) (by kernel_rfl) rfl rfl

/-- siding/sidingref02.Bytes -/
def h44 : List Hint := [⟨[], [true, true, false, false, false, true, false, false, false, false, false, false, false, false, false, false, false, false, false], []⟩]
def c44 : C :=
 (.seq (.reg [⟨some 4, .assign (.const (.int .u32 0)), none⟩])
 (.seq (.seq (.reg [⟨some 5, .assign (.const (.int .i64 0)), none⟩])
 (.block 0 (.loop [] [true, true, false, false, false, true, false, false, false, false, false, false, false, false, false, false, false, false, false] (.seq (.seq (.reg [⟨some 6, .move (.tmp 5), none⟩, ⟨some 7, .move (.tmp 1), none⟩, ⟨some 8, .call { callee := .builtin .len, args := #[(.tmp 7)], argTypes := #[22] }, none⟩, ⟨some 9, .binOp .lss 3 (.tmp 6) (.tmp 8) 3, none⟩])
 (.cond (.tmp 9) .skip (.exit 0)))
 (.seq (.block 1 (.reg [⟨some 12, .move (.tmp 0), none⟩, ⟨some 13, .move (.tmp 1), none⟩, ⟨some 14, .move (.tmp 5), none⟩, ⟨some 15, .indexAddr 22 (.tmp 13) (.tmp 14), none⟩, ⟨some 16, .load 5 (.tmp 15), none⟩, ⟨some 17, .call { callee := .value (.func 46), args := #[(.tmp 12), (.tmp 16)], argTypes := #[23, 5] }, none⟩, ⟨some 0, .assign (.tmp 17), none⟩]))
 (.reg [⟨some 10, .move (.tmp 5), none⟩, ⟨some 11, .binOp .add 3 (.tmp 10) (.const (.int .i64 1)) 3, none⟩, ⟨some 5, .assign (.tmp 11), none⟩]))))))
 (.seq (.reg [⟨some 18, .move (.tmp 0), none⟩, ⟨some 4, .assign (.tmp 18), none⟩])
 .ret)))
theorem b44 : Body Try.prog 44 [] h44 c44 Try.f44.ntmps Try.f44.results.toList := body_of Try.func44 (by kernel_rfl) (by kernel_rfl) rfl rfl

/-- siding/crc.row -/
def h45 : List Hint := [⟨[], [true, false, false, true, false, false, false, false, false, false, false, false, false, false], []⟩]
def c45 : C :=
 (.seq (.reg [⟨some 2, .assign (.const (.int .u32 0)), none⟩])
 (.seq (.seq (.reg [⟨some 3, .move (.const (.int .i64 0)), none⟩])
 (.block 0 (.loop [] [true, false, false, true, false, false, false, false, false, false, false, false, false, false] (.seq (.reg [⟨some 4, .binOp .lss 3 (.tmp 3) (.const (.int .i64 8)) 3, none⟩])
 (.seq (.cond (.tmp 4) .skip (.exit 0))
 (.seq (.block 1 (.reg [⟨some 5, .move (.tmp 0), none⟩, ⟨some 6, .binOp .shr 23 (.tmp 5) (.const (.int .u64 1)) 73, none⟩, ⟨some 7, .move (.tmp 0), none⟩, ⟨some 8, .binOp .and 23 (.tmp 7) (.const (.int .u32 1)) 23, none⟩, ⟨some 9, .unOp .neg 23 (.tmp 8), none⟩, ⟨some 10, .binOp .and 23 (.const (.int .u32 3988292384)) (.tmp 9) 23, none⟩, ⟨some 11, .binOp .xor 23 (.tmp 6) (.tmp 10) 23, none⟩, ⟨some 0, .assign (.tmp 11), none⟩]))
 (.reg [⟨some 12, .binOp .add 3 (.tmp 3) (.const (.int .i64 1)) 3, none⟩, ⟨some 3, .move (.tmp 12), none⟩])))))))
 (.seq (.reg [⟨some 13, .move (.tmp 0), none⟩, ⟨some 2, .assign (.tmp 13), none⟩])
 .ret)))
theorem b45 : Body Try.prog 45 [] h45 c45 Try.f45.ntmps Try.f45.results.toList := body_of Try.func45 (by kernel_rfl) (by kernel_rfl) rfl rfl

/-- siding/sidingref02.Byte -/
def h46 : List Hint := [⟨[], [true, true, false, false, false, true, false, false, false, false, false, false, false, false, false, false, false, false], []⟩]
def c46 : C :=
 (.seq (.reg [⟨some 4, .assign (.const (.int .u32 0)), none⟩])
 (.seq (.seq (.reg [⟨some 5, .assign (.const (.int .i64 0)), none⟩])
 (.block 0 (.loop [] [true, true, false, false, false, true, false, false, false, false, false, false, false, false, false, false, false, false] (.seq (.seq (.reg [⟨some 6, .move (.tmp 5), none⟩, ⟨some 7, .binOp .lss 3 (.tmp 6) (.const (.int .i64 8)) 3, none⟩])
 (.cond (.tmp 7) .skip (.exit 0)))
 (.seq (.block 1 (.reg [⟨some 10, .move (.tmp 0), none⟩, ⟨some 11, .move (.tmp 1), none⟩, ⟨some 12, .convert 5 23 (.tmp 11), none⟩, ⟨some 13, .move (.tmp 5), none⟩, ⟨some 14, .binOp .shr 23 (.tmp 12) (.tmp 13) 3, none⟩, ⟨some 15, .binOp .and 23 (.tmp 14) (.const (.int .u32 1)) 23, none⟩, ⟨some 16, .call { callee := .value (.func 60), args := #[(.tmp 10), (.tmp 15)], argTypes := #[23, 23] }, none⟩, ⟨some 0, .assign (.tmp 16), none⟩]))
 (.reg [⟨some 8, .move (.tmp 5), none⟩, ⟨some 9, .binOp .add 3 (.tmp 8) (.const (.int .i64 1)) 3, none⟩, ⟨some 5, .assign (.tmp 9), none⟩]))))))
 (.seq (.reg [⟨some 17, .move (.tmp 0), none⟩, ⟨some 4, .assign (.tmp 17), none⟩])
 .ret)))
theorem b46 : Body Try.prog 46 [] h46 c46 Try.f46.ntmps Try.f46.results.toList := body_of Try.func46 (by kernel_rfl) (by kernel_rfl) rfl rfl

/-- siding/crc.table -/
def h59 : List Hint := [⟨[], [true, false, true, false, false, false, false, false, false, false, false, false], []⟩]
def c59 : C :=
 (.seq (.reg [⟨some 0, .alloc 84, none⟩])
 (.seq (.seq (.reg [⟨some 2, .move (.const (.int .i64 0)), none⟩])
 (.block 0 (.loop [] [true, false, true, false, false, false, false, false, false, false, false, false] (.seq (.reg [⟨some 3, .binOp .lss 3 (.tmp 2) (.const (.int .i64 256)) 3, none⟩])
 (.seq (.cond (.tmp 3) .skip (.exit 0))
 (.seq (.block 1 (.seq (.reg [⟨some 4, .move (.tmp 2), none⟩, ⟨some 1, .assign (.tmp 4), none⟩])
 (.reg [⟨some 5, .move (.tmp 1), none⟩, ⟨some 6, .move (.tmp 1), none⟩, ⟨some 7, .convert 3 23 (.tmp 6), none⟩, ⟨some 8, .call { callee := .value (.func 45), args := #[(.tmp 7)], argTypes := #[23] }, none⟩, ⟨some 9, .indexAddr 84 (.tmp 0) (.tmp 5), none⟩, ⟨none, .store 23 (.tmp 9) (.tmp 8), none⟩])))
 (.reg [⟨some 10, .binOp .add 3 (.tmp 2) (.const (.int .i64 1)) 3, none⟩, ⟨some 2, .move (.tmp 10), none⟩])))))))
 (.seq (.reg [⟨some 11, .load 84 (.tmp 0), none⟩, ⟨none, .store 84 (.tmp 0) (.tmp 11), none⟩])
 .ret)))
theorem b59 : Body Try.prog 59 [] h59 c59 Try.f59.ntmps Try.f59.results.toList := body_of Try.func59 (by kernel_rfl) (by kernel_rfl) rfl rfl

/-- siding/sidingref02.Step -/
def h60 : List Hint := []
def c60 : C :=
 (.seq (.reg [⟨some 4, .assign (.const (.int .u32 0)), none⟩])
 (.seq (.seq (.reg [⟨some 5, .move (.tmp 0), none⟩, ⟨some 6, .move (.tmp 1), none⟩, ⟨some 7, .binOp .xor 23 (.tmp 5) (.tmp 6) 23, none⟩, ⟨some 8, .binOp .and 23 (.tmp 7) (.const (.int .u32 1)) 23, none⟩, ⟨some 9, .binOp .eql 23 (.tmp 8) (.const (.int .u32 1)) 23, none⟩])
 (.cond (.tmp 9) (.seq (.reg [⟨some 10, .move (.tmp 0), none⟩, ⟨some 11, .binOp .shr 23 (.tmp 10) (.const (.int .u64 1)) 73, none⟩, ⟨some 12, .binOp .xor 23 (.tmp 11) (.const (.int .u32 3988292384)) 23, none⟩, ⟨some 4, .assign (.tmp 12), none⟩])
 .ret) .skip))
 (.seq (.reg [⟨some 13, .move (.tmp 0), none⟩, ⟨some 14, .binOp .shr 23 (.tmp 13) (.const (.int .u64 1)) 73, none⟩, ⟨some 4, .assign (.tmp 14), none⟩])
 .ret)))
theorem b60 : Body Try.prog 60 [] h60 c60 Try.f60.ntmps Try.f60.results.toList := body_of Try.func60 (by kernel_rfl) (by kernel_rfl) rfl rfl

end Go.Proofs.Ytadnjellfiafaaa.Pm
