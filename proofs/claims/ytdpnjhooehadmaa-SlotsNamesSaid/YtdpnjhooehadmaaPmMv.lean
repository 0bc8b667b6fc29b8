/- Texts of this proof in one file: PmYn, PmSi, PmSj. No law of Go's is stated here. -/
import Derived.Test.YtdpnjhooehadmaaPmMd
import Derived.Test.YtdpnjhooehadmaaPmMc
import Derived.Test.YtdpnjhooehadmaaPmMu
import Derived.Test.YtdpnjhooehadmaaPmFqe
/-! PmYn -/
set_option linter.all false
set_option maxRecDepth 100000
namespace Go.Proofs.Ytdpnjhooehadmaa.Pm
open Go Go.RowKit


def c_law05_given : C := (.seq (.seq (.reg ([⟨some 0, .alloc 43, none⟩])) (.keep [0])) (.seq (.seq (.reg ([⟨some 4, .call { callee := .value (.func 40), args := #[(.const (.int .i64 100))], argTypes := #[3] }, none⟩, ⟨some 3, .move (.tmp 4), none⟩, ⟨some 5, .extract (.tmp 3) 0, none⟩, ⟨some 6, .extract (.tmp 3) 1, none⟩, ⟨some 1, .alloc 43, none⟩, ⟨none, .store 43 (.tmp 1) (.tmp 5), none⟩, ⟨some 2, .assign (.tmp 6), none⟩])) (.keep [0, 1])) (.seq (.seq (.reg ([⟨some 8, .load 43 (.tmp 1), none⟩, ⟨some 9, .buildSlice 22 1 #[(0, (.const (.int .u8 97)))], none⟩, ⟨some 10, .convert 22 22 (.tmp 9), none⟩, ⟨some 11, .call { callee := .value (.func 42), args := #[(.tmp 8), (.tmp 10)], argTypes := #[43, 22] }, none⟩, ⟨some 7, .move (.tmp 11), none⟩, ⟨some 12, .extract (.tmp 7) 0, none⟩, ⟨some 13, .extract (.tmp 7) 1, none⟩, ⟨some 14, .extract (.tmp 7) 2, none⟩, ⟨none, .store 43 (.tmp 1) (.tmp 12), none⟩])) (.keep [0, 1])) (.seq (.seq (.reg ([⟨some 16, .load 43 (.tmp 1), none⟩, ⟨some 17, .buildSlice 22 2 #[(0, (.const (.int .u8 98))), (1, (.const (.int .u8 99)))], none⟩, ⟨some 18, .convert 22 22 (.tmp 17), none⟩, ⟨some 19, .call { callee := .value (.func 42), args := #[(.tmp 16), (.tmp 18)], argTypes := #[43, 22] }, none⟩, ⟨some 15, .move (.tmp 19), none⟩, ⟨some 20, .extract (.tmp 15) 0, none⟩, ⟨some 21, .extract (.tmp 15) 1, none⟩, ⟨some 22, .extract (.tmp 15) 2, none⟩, ⟨none, .store 43 (.tmp 1) (.tmp 20), none⟩])) (.keep [0, 1])) (.seq (.seq (.reg ([⟨some 23, .load 43 (.tmp 1), none⟩, ⟨none, .store 43 (.tmp 0) (.tmp 23), none⟩])) (.keep [0])) .ret)))))
attribute [go_sem ↓] c_law05_given
def h_law05_given : List Hint := [⟨[], [0], []⟩, ⟨[], [0, 1], []⟩, ⟨[], [0, 1], []⟩, ⟨[], [0, 1], []⟩, ⟨[], [0], []⟩]
theorem b_law05_given : Body Try.prog 54 [] h_law05_given c_law05_given 24 [.cell 0 43] := body_of Try.func54 (by kernel_rfl) (by kernel_rfl) (by kernel_rfl) (by kernel_rfl)
def c_law05_loads : C := (.seq (.seq (.reg ([⟨some 4, .box 43 (.tmp 0), none⟩, ⟨some 8, .assign (.const (.bool false)), none⟩])) (.keep [1, 2, 3, 4])) (.seq (.seq (.reg ([⟨some 15, .load 43 (.tmp 4), none⟩, ⟨some 16, .call { callee := .value (.func 27), args := #[(.tmp 15)], argTypes := #[43] }, none⟩, ⟨some 14, .move (.tmp 16), none⟩, ⟨some 17, .extract (.tmp 14) 0, none⟩, ⟨some 18, .extract (.tmp 14) 1, none⟩, ⟨some 9, .alloc 43, none⟩, ⟨none, .store 43 (.tmp 9) (.tmp 17), none⟩, ⟨some 10, .assign (.tmp 18), none⟩])) (.keep [1, 2, 3, 9, 10])) (.seq (.seq (.reg ([⟨some 20, .load 43 (.tmp 9), none⟩, ⟨some 21, .call { callee := .value (.func 25), args := #[(.tmp 20)], argTypes := #[43] }, none⟩, ⟨some 19, .move (.tmp 21), none⟩, ⟨some 22, .extract (.tmp 19) 0, none⟩, ⟨some 23, .extract (.tmp 19) 1, none⟩, ⟨some 24, .extract (.tmp 19) 2, none⟩, ⟨some 11, .assign (.tmp 22), none⟩, ⟨some 12, .assign (.tmp 23), none⟩, ⟨some 13, .assign (.tmp 24), none⟩])) (.keep [1, 2, 3, 9, 10, 11, 12, 13])) (.seq (.seq (.reg ([⟨some 25, .move (.tmp 1), none⟩, ⟨some 26, .binOp .eql 29 (.tmp 25) (.const (.int .i64 0)) 29, none⟩, ⟨some 27, .move (.tmp 26), none⟩, ⟨some 28, .move (.tmp 10), some (27, true)⟩, ⟨some 29, .binOp .eql 29 (.tmp 28) (.const (.int .i64 0)) 29, some (27, true)⟩, ⟨some 30, .pick (.tmp 27) (.tmp 29) (.const (.bool false)), none⟩, ⟨some 31, .move (.tmp 30), none⟩, ⟨some 32, .move (.tmp 13), some (31, true)⟩, ⟨some 33, .binOp .eql 29 (.tmp 32) (.const (.int .i64 0)) 29, some (31, true)⟩, ⟨some 34, .pick (.tmp 31) (.tmp 33) (.const (.bool false)), none⟩, ⟨some 35, .move (.tmp 34), none⟩, ⟨some 36, .move (.tmp 11), some (35, true)⟩, ⟨some 37, .move (.tmp 2), some (35, true)⟩, ⟨some 38, .binOp .eql 3 (.tmp 36) (.tmp 37) 3, some (35, true)⟩, ⟨some 39, .pick (.tmp 35) (.tmp 38) (.const (.bool false)), none⟩, ⟨some 40, .move (.tmp 39), none⟩, ⟨some 41, .move (.tmp 12), some (40, true)⟩, ⟨some 42, .convert 22 9 (.tmp 41), some (40, true)⟩, ⟨some 43, .move (.tmp 3), some (40, true)⟩, ⟨some 44, .binOp .eql 9 (.tmp 42) (.tmp 43) 9, some (40, true)⟩, ⟨some 45, .pick (.tmp 40) (.tmp 44) (.const (.bool false)), none⟩, ⟨some 46, .move (.tmp 45), none⟩, ⟨some 47, .fieldAddr 43 (.tmp 9) 1, some (46, true)⟩, ⟨some 48, .load 3 (.tmp 47), some (46, true)⟩, ⟨some 49, .move (.tmp 2), some (46, true)⟩, ⟨some 50, .binOp .add 3 (.tmp 49) (.const (.int .i64 1)) 3, some (46, true)⟩, ⟨some 51, .binOp .eql 3 (.tmp 48) (.tmp 50) 3, some (46, true)⟩, ⟨some 52, .pick (.tmp 46) (.tmp 51) (.const (.bool false)), none⟩, ⟨some 8, .assign (.tmp 52), none⟩])) (.keep [8])) .ret))))
attribute [go_sem ↓] c_law05_loads
def h_law05_loads : List Hint := [⟨[], [1, 2, 3, 4], []⟩, ⟨[], [1, 2, 3, 9, 10], []⟩, ⟨[], [1, 2, 3, 9, 10, 11, 12, 13], []⟩, ⟨[], [8], []⟩]
theorem b_law05_loads : Body Try.prog 55 [] h_law05_loads c_law05_loads 53 [.tmp 8] := body_of Try.func55 (by kernel_rfl) (by kernel_rfl) (by kernel_rfl) (by kernel_rfl)
def r_law05_alive_0 : List I := [⟨some 13, .move (.tmp 14), none⟩, ⟨some 15, .extract (.tmp 13) 0, none⟩, ⟨some 16, .extract (.tmp 13) 1, none⟩, ⟨some 1, .alloc 43, none⟩, ⟨none, .store 43 (.tmp 1) (.tmp 15), none⟩, ⟨some 2, .assign (.tmp 16), none⟩]
@[go_sem ↓] def ur_law05_alive_0 := @unI _ _ r_law05_alive_0.eq_1
def r_law05_alive_1 : List I := [⟨some 17, .move (.tmp 19), none⟩, ⟨some 20, .extract (.tmp 17) 0, none⟩, ⟨some 21, .extract (.tmp 17) 1, none⟩, ⟨some 22, .extract (.tmp 17) 2, none⟩, ⟨some 3, .assign (.tmp 20), none⟩, ⟨some 4, .assign (.tmp 21), none⟩, ⟨some 5, .assign (.tmp 22), none⟩]
@[go_sem ↓] def ur_law05_alive_1 := @unI _ _ r_law05_alive_1.eq_1
def r_law05_alive_2 : List I := [⟨some 23, .move (.tmp 27), none⟩, ⟨some 28, .extract (.tmp 23) 0, none⟩, ⟨some 29, .extract (.tmp 23) 1, none⟩, ⟨some 30, .extract (.tmp 23) 2, none⟩, ⟨some 6, .alloc 43, none⟩, ⟨none, .store 43 (.tmp 6) (.tmp 28), none⟩, ⟨some 7, .assign (.tmp 29), none⟩, ⟨some 8, .assign (.tmp 30), none⟩]
@[go_sem ↓] def ur_law05_alive_2 := @unI _ _ r_law05_alive_2.eq_1
def r_law05_alive_3 : List I := [⟨some 31, .move (.tmp 35), none⟩, ⟨some 36, .extract (.tmp 31) 0, none⟩, ⟨some 37, .extract (.tmp 31) 1, none⟩, ⟨some 9, .alloc 43, none⟩, ⟨none, .store 43 (.tmp 9) (.tmp 36), none⟩, ⟨some 10, .assign (.tmp 37), none⟩]
@[go_sem ↓] def ur_law05_alive_3 := @unI _ _ r_law05_alive_3.eq_1
def r_law05_alive_4 : List I := ⟨some 33, .buildSlice 22 1 #[(0, (.const (.int .u8 100)))], none⟩ :: ⟨some 34, .convert 22 22 (.tmp 33), none⟩ :: ⟨some 35, .call { callee := .value (.func 44), args := #[(.tmp 32), (.tmp 34), (.const (.int .i64 2)), (.const (.int .i64 12))], argTypes := #[43, 22, 3, 3] }, none⟩ :: r_law05_alive_3
@[go_sem ↓] def ur_law05_alive_4 := @unI _ _ r_law05_alive_4.eq_1
def r_law05_alive_5 : List I := [⟨some 38, .move (.tmp 42), none⟩, ⟨some 43, .extract (.tmp 38) 0, none⟩, ⟨some 44, .extract (.tmp 38) 1, none⟩, ⟨some 11, .alloc 43, none⟩, ⟨none, .store 43 (.tmp 11) (.tmp 43), none⟩, ⟨some 12, .assign (.tmp 44), none⟩]
@[go_sem ↓] def ur_law05_alive_5 := @unI _ _ r_law05_alive_5.eq_1
def r_law05_alive_6 : List I := ⟨some 40, .buildSlice 22 1 #[(0, (.const (.int .u8 100)))], none⟩ :: ⟨some 41, .convert 22 22 (.tmp 40), none⟩ :: ⟨some 42, .call { callee := .value (.func 44), args := #[(.tmp 39), (.tmp 41), (.const (.int .i64 2)), (.const (.int .i64 13))], argTypes := #[43, 22, 3, 3] }, none⟩ :: r_law05_alive_5
@[go_sem ↓] def ur_law05_alive_6 := @unI _ _ r_law05_alive_6.eq_1
def r_law05_alive_7 : List I := [⟨some 73, .pick (.tmp 69) (.tmp 72) (.const (.bool false)), none⟩, ⟨some 0, .assign (.tmp 73), none⟩]
@[go_sem ↓] def ur_law05_alive_7 := @unI _ _ r_law05_alive_7.eq_1
def r_law05_alive_8 : List I := ⟨some 68, .pick (.tmp 64) (.tmp 67) (.const (.bool false)), none⟩ :: ⟨some 69, .move (.tmp 68), none⟩ :: ⟨some 70, .load 43 (.tmp 11), some (69, true)⟩ :: ⟨some 71, .move (.tmp 12), some (69, true)⟩ :: ⟨some 72, .call { callee := .value (.func 55), args := #[(.tmp 70), (.tmp 71), (.const (.int .i64 3)), (.const (.string ⟨#[100]⟩))], argTypes := #[43, 29, 3, 9] }, some (69, true)⟩ :: r_law05_alive_7
@[go_sem ↓] def ur_law05_alive_8 := @unI _ _ r_law05_alive_8.eq_1
def r_law05_alive_9 : List I := ⟨some 63, .pick (.tmp 60) (.tmp 62) (.const (.bool false)), none⟩ :: ⟨some 64, .move (.tmp 63), none⟩ :: ⟨some 65, .load 43 (.tmp 9), some (64, true)⟩ :: ⟨some 66, .move (.tmp 10), some (64, true)⟩ :: ⟨some 67, .call { callee := .value (.func 55), args := #[(.tmp 65), (.tmp 66), (.const (.int .i64 2)), (.const (.string ⟨#[98, 99]⟩))], argTypes := #[43, 29, 3, 9] }, some (64, true)⟩ :: r_law05_alive_8
@[go_sem ↓] def ur_law05_alive_9 := @unI _ _ r_law05_alive_9.eq_1
def r_law05_alive_10 : List I := ⟨some 62, .call { callee := .value (.func 55), args := #[(.tmp 61), (.const (.int .i64 0)), (.const (.int .i64 2)), (.const (.string ⟨#[98, 99]⟩))], argTypes := #[43, 29, 3, 9] }, some (60, true)⟩ :: r_law05_alive_9
@[go_sem ↓] def ur_law05_alive_10 := @unI _ _ r_law05_alive_10.eq_1
def r_law05_alive_11 : List I := ⟨some 55, .pick (.tmp 51) (.tmp 54) (.const (.bool false)), none⟩ :: ⟨some 56, .move (.tmp 55), none⟩ :: ⟨some 57, .move (.tmp 7), some (56, true)⟩ :: ⟨some 58, .binOp .eql 3 (.tmp 57) (.const (.int .i64 1)) 3, some (56, true)⟩ :: ⟨some 59, .pick (.tmp 56) (.tmp 58) (.const (.bool false)), none⟩ :: ⟨some 60, .move (.tmp 59), none⟩ :: ⟨some 61, .call { callee := .value (.func 54), args := #[], argTypes := #[] }, some (60, true)⟩ :: r_law05_alive_10
@[go_sem ↓] def ur_law05_alive_11 := @unI _ _ r_law05_alive_11.eq_1
def c_law05_alive_12 : C := (.seq (.seq (.reg (⟨some 45, .move (.tmp 2), none⟩ :: ⟨some 46, .binOp .eql 29 (.tmp 45) (.const (.int .i64 0)) 29, none⟩ :: ⟨some 47, .move (.tmp 46), none⟩ :: ⟨some 48, .move (.tmp 5), some (47, true)⟩ :: ⟨some 49, .binOp .eql 29 (.tmp 48) (.const (.int .i64 6)) 29, some (47, true)⟩ :: ⟨some 50, .pick (.tmp 47) (.tmp 49) (.const (.bool false)), none⟩ :: ⟨some 51, .move (.tmp 50), none⟩ :: ⟨some 52, .load 43 (.tmp 6), some (51, true)⟩ :: ⟨some 53, .move (.tmp 8), some (51, true)⟩ :: ⟨some 54, .call { callee := .value (.func 55), args := #[(.tmp 52), (.tmp 53), (.const (.int .i64 1)), (.const (.string ⟨#[97]⟩))], argTypes := #[43, 29, 3, 9] }, some (51, true)⟩ :: r_law05_alive_11)) (.keep [0])) .ret)
@[go_sem ↓] def uc_law05_alive_12 := @unC _ _ c_law05_alive_12.eq_1
def c_law05_alive_13 : C := (.seq (.seq (.reg (⟨some 39, .call { callee := .value (.func 54), args := #[], argTypes := #[] }, none⟩ :: r_law05_alive_6)) (.keep [2, 5, 6, 7, 8, 9, 10, 11, 12])) c_law05_alive_12)
@[go_sem ↓] def uc_law05_alive_13 := @unC _ _ c_law05_alive_13.eq_1
def c_law05_alive_14 : C := (.seq (.seq (.reg (⟨some 32, .call { callee := .value (.func 54), args := #[], argTypes := #[] }, none⟩ :: r_law05_alive_4)) (.keep [2, 5, 6, 7, 8, 9, 10])) c_law05_alive_13)
@[go_sem ↓] def uc_law05_alive_14 := @unC _ _ c_law05_alive_14.eq_1
def c_law05_alive_15 : C := (.seq (.seq (.reg (⟨some 24, .load 43 (.tmp 1), none⟩ :: ⟨some 25, .buildSlice 22 1 #[(0, (.const (.int .u8 97)))], none⟩ :: ⟨some 26, .convert 22 22 (.tmp 25), none⟩ :: ⟨some 27, .call { callee := .value (.func 42), args := #[(.tmp 24), (.tmp 26)], argTypes := #[43, 22] }, none⟩ :: r_law05_alive_2)) (.keep [2, 5, 6, 7, 8])) c_law05_alive_14)
@[go_sem ↓] def uc_law05_alive_15 := @unC _ _ c_law05_alive_15.eq_1
def c_law05_alive_16 : C := (.seq (.seq (.reg (⟨some 18, .load 43 (.tmp 1), none⟩ :: ⟨some 19, .call { callee := .value (.func 25), args := #[(.tmp 18)], argTypes := #[43] }, none⟩ :: r_law05_alive_1)) (.keep [1, 2, 5])) c_law05_alive_15)
@[go_sem ↓] def uc_law05_alive_16 := @unC _ _ c_law05_alive_16.eq_1
def c_law05_alive_17 : C := (.seq (.seq (.reg (⟨some 14, .call { callee := .value (.func 40), args := #[(.const (.int .i64 100))], argTypes := #[3] }, none⟩ :: r_law05_alive_0)) (.keep [1, 2])) c_law05_alive_16)
@[go_sem ↓] def uc_law05_alive_17 := @unC _ _ c_law05_alive_17.eq_1
def c_law05_alive : C := (.seq (.seq (.reg ([⟨some 0, .assign (.const (.bool false)), none⟩])) (.keep [])) c_law05_alive_17)
attribute [go_sem ↓] c_law05_alive
def h_law05_alive : List Hint := [⟨[], [], []⟩, ⟨[], [1, 2], []⟩, ⟨[], [1, 2, 5], []⟩, ⟨[], [2, 5, 6, 7, 8], []⟩, ⟨[], [2, 5, 6, 7, 8, 9, 10], []⟩, ⟨[], [2, 5, 6, 7, 8, 9, 10, 11, 12], []⟩, ⟨[], [0], []⟩]
theorem b_law05_alive : Body Try.prog 56 [] h_law05_alive c_law05_alive 74 [.tmp 0] := body_of Try.func56 (by kernel_rfl) (by kernel_rfl) (by kernel_rfl) (by kernel_rfl)
def c_law05_fit : C := (.seq (.seq (.reg ([⟨some 1, .box 43 (.tmp 0), none⟩, ⟨some 2, .assign (.const (.bool false)), none⟩])) (.keep [1])) (.seq (.seq (.reg ([⟨some 3, .load 43 (.tmp 1), none⟩, ⟨some 4, .call { callee := .value (.func 23), args := #[(.tmp 3)], argTypes := #[43] }, none⟩, ⟨some 5, .unOp .not 4 (.tmp 4), none⟩, ⟨some 6, .move (.tmp 5), none⟩, ⟨some 7, .load 43 (.tmp 1), some (6, true)⟩, ⟨some 8, .call { callee := .value (.func 47), args := #[(.tmp 7)], argTypes := #[43] }, some (6, true)⟩, ⟨some 9, .binOp .eql 3 (.tmp 8) (.const (.int .i64 0)) 3, some (6, true)⟩, ⟨some 10, .pick (.tmp 6) (.tmp 9) (.const (.bool false)), none⟩, ⟨some 2, .assign (.tmp 10), none⟩])) (.keep [2])) .ret))
attribute [go_sem ↓] c_law05_fit
end Go.Proofs.Ytdpnjhooehadmaa.Pm

/-! PmSi -/
set_option linter.all false
set_option maxRecDepth 100000
set_option maxHeartbeats 2000000
namespace Go.Proofs.Ytdpnjhooehadmaa.Pm
open Go Go.RowKit

def strS (b : List (BitVec 8)) : ByteArray := strOf (bT b)
theorem bytes_are (b : List (BitVec 8)) : areBytes (bT b) := by
  intro e he
  simp only [bT, List.mem_map] at he
  obtain ⟨x, _, rfl⟩ := he
  exact ⟨_, rfl⟩
theorem nextO_bounds (s : Slt) : 1 ≤ nextO s ∧ nextO s ≤ 1000000001 := by
  unfold nextO
  cases ho : newO s with
  | none => exact ⟨by show (1 : Int) ≤ 1; omega, by show (1 : Int) ≤ 1000000001; omega⟩
  | some r =>
    have := newO_ok ho
    exact ⟨by show 1 ≤ r.num + 1; omega, by show r.num + 1 ≤ _; omega⟩
theorem openS_fine {s : Slt} (hs : s.fine) : (openS s).1.fine := by
  unfold openS
  split
  · rename_i h
    have := nextO_bounds ⟨openD s.d0, openD s.d1, 0⟩
    exact ⟨openD_small hs.1 h.1, openD_small hs.2.1 h.2, by show -9223372036854775808 ≤ nextO _; omega, by show nextO _ ≤ _; omega⟩
  · exact ⟨zeroD_small, zeroD_small, by show (-9223372036854775808 : Int) ≤ 0; omega, by show (0 : Int) ≤ 9223372036854775807; omega⟩
/-- Slots that open and load like this. -/
structure Slt.has (s : Slt) (n : Int) (b : List (BitVec 8)) : Prop where
  fine : s.fine
  open0 : (openS s).2 = 0
  load : loadS (openS s).1 = (n, b, 0)
  next : (openS s).1.next = n + 1
  lo : 0 ≤ n
  hi : n ≤ 1000000000
theorem s_loads {s : Slt} {n : Int} {b : List (BitVec 8)} (h : s.has n b) : Spec Try.prog 55 [.agg s.cells, .i .i64 0, .i .i64 n, .s (strS b)] [] (.t (.b true) true) := by
  refine spec_k (hold mixed) b_law05_loads [(.b true, true)] ?_
  obtain ⟨hs, h0, h1, h2, h3, h4⟩ := h
  have hO := s_slots_Open s hs
  have hL := s_slots_Load (openS s).1 (openS_fine hs)
  rw [h1] at hL
  have w1 : IntKind.i64.wrap (n + 1) = n + 1 := wrap_i64_id (by omega) (by omega)
  have q1 : (n == n) = true := by simp
  have q2 : ((n + 1) == (n + 1)) = true := by simp
  have q3 : ((strOf (bT b)).toList == (strS b).toList) = true := by simp [strS]
  generalize openS s = p at *
  simp -implicitDefEqProofs only [go_sem, reduceIte, Nat.reduceAdd, Nat.reduceSub, Nat.reduceMul, Nat.reduceLT, Nat.reduceLeDiff, Nat.reduceEqDiff, Nat.reduceBEq, Int.reduceLE, Int.reduceLT, Int.reduceToNat, Int.reduceMul, Int.reduceAdd, Int.reduceSub, Int.reduceNeg, Int.reduceEq, reduceCtorEq, Nat.reduceMod, Int.reduceBNe, Int.reduceBEq, Int.reduceGT, Int.reduceGE, Int.reduceNe, Int.cast_ofNat_Int, Int.natCast_zero, Int.natCast_one, bne_self_eq_false, gt_iff_lt, ge_iff_le, Int.lt_irrefl, Int.le_refl]
  first | refine call_k hO ?_ | refine call_d hO ?_
  simp -implicitDefEqProofs only [go_sem, reduceIte, Nat.reduceAdd, Nat.reduceSub, Nat.reduceMul, Nat.reduceLT, Nat.reduceLeDiff, Nat.reduceEqDiff, Nat.reduceBEq, Int.reduceLE, Int.reduceLT, Int.reduceToNat, Int.reduceMul, Int.reduceAdd, Int.reduceSub, Int.reduceNeg, Int.reduceEq, reduceCtorEq, Nat.reduceMod, Int.reduceBNe, Int.reduceBEq, Int.reduceGT, Int.reduceGE, Int.reduceNe, Int.cast_ofNat_Int, Int.natCast_zero, Int.natCast_one, bne_self_eq_false, gt_iff_lt, ge_iff_le, Int.lt_irrefl, Int.le_refl]
  first | refine call_k hL ?_ | refine call_d hL ?_
  simp -implicitDefEqProofs only [go_sem, reduceIte, Nat.reduceAdd, Nat.reduceSub, Nat.reduceMul, Nat.reduceLT, Nat.reduceLeDiff, Nat.reduceEqDiff, Nat.reduceBEq, Int.reduceLE, Int.reduceLT, Int.reduceToNat, Int.reduceMul, Int.reduceAdd, Int.reduceSub, Int.reduceNeg, Int.reduceEq, reduceCtorEq, Nat.reduceMod, Int.reduceBNe, Int.reduceBEq, Int.reduceGT, Int.reduceGE, Int.reduceNe, Int.cast_ofNat_Int, Int.natCast_zero, Int.natCast_one, bne_self_eq_false, gt_iff_lt, ge_iff_le, Int.lt_irrefl, Int.le_refl, h0, q1, bytes_are, q3, h2, w1, q2]
def G0 : Slt := (newS 100).1
def G1 : Slt := (saveS G0 [97#8]).1
def G2 : Slt := (saveS G1 [98#8, 99#8]).1
instance (d : Dev) : Decidable d.small := by unfold Dev.small; infer_instance
instance (s : Slt) : Decidable s.fine := by unfold Slt.fine; infer_instance
theorem has_ofS {s : Slt} {n : Int} {b : List (BitVec 8)} (h : s.fine ∧ (openS s).2 = 0 ∧ loadS (openS s).1 = (n, b, 0) ∧ (openS s).1.next = n + 1 ∧ 0 ≤ n ∧ n ≤ 1000000000) : s.has n b :=
  ⟨h.1, h.2.1, h.2.2.1, h.2.2.2.1, h.2.2.2.2.1, h.2.2.2.2.2⟩
theorem fineG0 : G0.fine := by decide +kernel
theorem fineG1 : G1.fine := by decide +kernel
theorem fineG2 : G2.fine := by decide +kernel
theorem s_given5 : Spec Try.prog 54 [] [] (.t (.agg G2.cells) true) := by
  refine spec_k (hold mixed) b_law05_given [(.agg G2.cells, true)] ?_
  have A0 := s_slots_New 100
  have A1 : Spec Try.prog 42 [.agg G0.cells, .sl [[.i .u8 97]]] [] (resV ((opS3 (saveS G0 [97#8])).map AV.ofT)) := s_slots_Save G0 fineG0 [97#8] (by simp)
  have A2 : Spec Try.prog 42 [.agg G1.cells, .sl [[.i .u8 98], [.i .u8 99]]] [] (resV ((opS3 (saveS G1 [98#8, 99#8])).map AV.ofT)) := s_slots_Save G1 fineG1 [98#8, 99#8] (by simp)
  have e0 : (newS 100).1 = G0 := rfl
  have e1 : (saveS G0 [97#8]).1 = G1 := rfl
  have e2 : (saveS G1 [98#8, 99#8]).1 = G2 := rfl
  simp -implicitDefEqProofs only [go_sem, reduceIte, Nat.reduceAdd, Nat.reduceSub, Nat.reduceMul, Nat.reduceLT, Nat.reduceLeDiff, Nat.reduceEqDiff, Nat.reduceBEq, Int.reduceLE, Int.reduceLT, Int.reduceToNat, Int.reduceMul, Int.reduceAdd, Int.reduceSub, Int.reduceNeg, Int.reduceEq, reduceCtorEq, Nat.reduceMod, Int.reduceBNe, Int.reduceBEq, Int.reduceGT, Int.reduceGE, Int.reduceNe, Int.cast_ofNat_Int, Int.natCast_zero, Int.natCast_one, bne_self_eq_false, gt_iff_lt, ge_iff_le, Int.lt_irrefl, Int.le_refl]
  first | refine call_k A0 ?_ | refine call_d A0 ?_
  simp -implicitDefEqProofs only [go_sem, reduceIte, Nat.reduceAdd, Nat.reduceSub, Nat.reduceMul, Nat.reduceLT, Nat.reduceLeDiff, Nat.reduceEqDiff, Nat.reduceBEq, Int.reduceLE, Int.reduceLT, Int.reduceToNat, Int.reduceMul, Int.reduceAdd, Int.reduceSub, Int.reduceNeg, Int.reduceEq, reduceCtorEq, Nat.reduceMod, Int.reduceBNe, Int.reduceBEq, Int.reduceGT, Int.reduceGE, Int.reduceNe, Int.cast_ofNat_Int, Int.natCast_zero, Int.natCast_one, bne_self_eq_false, gt_iff_lt, ge_iff_le, Int.lt_irrefl, Int.le_refl, e0]
  first | refine call_k A1 ?_ | refine call_d A1 ?_
  simp -implicitDefEqProofs only [go_sem, reduceIte, Nat.reduceAdd, Nat.reduceSub, Nat.reduceMul, Nat.reduceLT, Nat.reduceLeDiff, Nat.reduceEqDiff, Nat.reduceBEq, Int.reduceLE, Int.reduceLT, Int.reduceToNat, Int.reduceMul, Int.reduceAdd, Int.reduceSub, Int.reduceNeg, Int.reduceEq, reduceCtorEq, Nat.reduceMod, Int.reduceBNe, Int.reduceBEq, Int.reduceGT, Int.reduceGE, Int.reduceNe, Int.cast_ofNat_Int, Int.natCast_zero, Int.natCast_one, bne_self_eq_false, gt_iff_lt, ge_iff_le, Int.lt_irrefl, Int.le_refl, e1]
  first | refine call_k A2 ?_ | refine call_d A2 ?_
  simp -implicitDefEqProofs only [go_sem, reduceIte, Nat.reduceAdd, Nat.reduceSub, Nat.reduceMul, Nat.reduceLT, Nat.reduceLeDiff, Nat.reduceEqDiff, Nat.reduceBEq, Int.reduceLE, Int.reduceLT, Int.reduceToNat, Int.reduceMul, Int.reduceAdd, Int.reduceSub, Int.reduceNeg, Int.reduceEq, reduceCtorEq, Nat.reduceMod, Int.reduceBNe, Int.reduceBEq, Int.reduceGT, Int.reduceGE, Int.reduceNe, Int.cast_ofNat_Int, Int.natCast_zero, Int.natCast_one, bne_self_eq_false, gt_iff_lt, ge_iff_le, Int.lt_irrefl, Int.le_refl, e2]
def G3 : Slt := (halfS G2 [100#8] 2 12).1
def G4 : Slt := (halfS G2 [100#8] 2 13).1
theorem s_alive5 : Spec Try.prog 56 [] [] (.t (.b true) true) := by
  refine spec_k (hold mixed) b_law05_alive [(.b true, true)] ?_
  have A0 := s_slots_New 100
  have A1 := s_slots_Load G0 fineG0
  have A2 : Spec Try.prog 42 [.agg G0.cells, .sl [[.i .u8 97]]] [] (resV ((opS3 (saveS G0 [97#8])).map AV.ofT)) := s_slots_Save G0 fineG0 [97#8] (by simp)
  have A3 : Spec Try.prog 44 [.agg G2.cells, .sl [[.i .u8 100]], .i .i64 2, .i .i64 12] [] (resV ((opS (halfS G2 [100#8] 2 12)).map AV.ofT)) := s_slots_Half G2 fineG2 [100#8] (by simp) 2 12 (by omega) (by omega) (by omega) (by omega)
  have A4 : Spec Try.prog 44 [.agg G2.cells, .sl [[.i .u8 100]], .i .i64 2, .i .i64 13] [] (resV ((opS (halfS G2 [100#8] 2 13)).map AV.ofT)) := s_slots_Half G2 fineG2 [100#8] (by simp) 2 13 (by omega) (by omega) (by omega) (by omega)
  have r0 : newS 100 = (G0, 0) := by decide +kernel
  have r1 : loadS G0 = (0, [], 6) := by decide +kernel
  have r2 : saveS G0 [97#8] = (G1, 1, 0) := by decide +kernel
  have r3 : halfS G2 [100#8] 2 12 = (G3, 0) := by decide +kernel
  have r4 : halfS G2 [100#8] 2 13 = (G4, 0) := by decide +kernel
  have h1 : G1.has 1 [97#8] := has_ofS (by decide +kernel)
  have h2 : G2.has 2 [98#8, 99#8] := has_ofS (by decide +kernel)
  have h3 : G3.has 2 [98#8, 99#8] := has_ofS (by decide +kernel)
  have h4 : G4.has 3 [100#8] := has_ofS (by decide +kernel)
  rw [r0] at A0; rw [r1] at A1; rw [r2] at A2; rw [r3] at A3; rw [r4] at A4
  have n1 : Spec Try.prog 55 [.agg G1.cells, .i .i64 0, .i .i64 1, .s ⟨#[97]⟩] [] (.t (.b true) true) := s_loads h1
  have n2 : Spec Try.prog 55 [.agg G2.cells, .i .i64 0, .i .i64 2, .s ⟨#[98, 99]⟩] [] (.t (.b true) true) := s_loads h2
  have n3 : Spec Try.prog 55 [.agg G3.cells, .i .i64 0, .i .i64 2, .s ⟨#[98, 99]⟩] [] (.t (.b true) true) := s_loads h3
  have n4 : Spec Try.prog 55 [.agg G4.cells, .i .i64 0, .i .i64 3, .s ⟨#[100]⟩] [] (.t (.b true) true) := s_loads h4
  simp -implicitDefEqProofs only [go_sem, reduceIte, Nat.reduceAdd, Nat.reduceSub, Nat.reduceMul, Nat.reduceLT, Nat.reduceLeDiff, Nat.reduceEqDiff, Nat.reduceBEq, Int.reduceLE, Int.reduceLT, Int.reduceToNat, Int.reduceMul, Int.reduceAdd, Int.reduceSub, Int.reduceNeg, Int.reduceEq, reduceCtorEq, Nat.reduceMod, Int.reduceBNe, Int.reduceBEq, Int.reduceGT, Int.reduceGE, Int.reduceNe, Int.cast_ofNat_Int, Int.natCast_zero, Int.natCast_one, bne_self_eq_false, gt_iff_lt, ge_iff_le, Int.lt_irrefl, Int.le_refl]
  first | refine call_k A0 ?_ | refine call_d A0 ?_
  simp -implicitDefEqProofs only [go_sem, reduceIte, Nat.reduceAdd, Nat.reduceSub, Nat.reduceMul, Nat.reduceLT, Nat.reduceLeDiff, Nat.reduceEqDiff, Nat.reduceBEq, Int.reduceLE, Int.reduceLT, Int.reduceToNat, Int.reduceMul, Int.reduceAdd, Int.reduceSub, Int.reduceNeg, Int.reduceEq, reduceCtorEq, Nat.reduceMod, Int.reduceBNe, Int.reduceBEq, Int.reduceGT, Int.reduceGE, Int.reduceNe, Int.cast_ofNat_Int, Int.natCast_zero, Int.natCast_one, bne_self_eq_false, gt_iff_lt, ge_iff_le, Int.lt_irrefl, Int.le_refl]
  first | refine call_k A1 ?_ | refine call_d A1 ?_
  simp -implicitDefEqProofs only [go_sem, reduceIte, Nat.reduceAdd, Nat.reduceSub, Nat.reduceMul, Nat.reduceLT, Nat.reduceLeDiff, Nat.reduceEqDiff, Nat.reduceBEq, Int.reduceLE, Int.reduceLT, Int.reduceToNat, Int.reduceMul, Int.reduceAdd, Int.reduceSub, Int.reduceNeg, Int.reduceEq, reduceCtorEq, Nat.reduceMod, Int.reduceBNe, Int.reduceBEq, Int.reduceGT, Int.reduceGE, Int.reduceNe, Int.cast_ofNat_Int, Int.natCast_zero, Int.natCast_one, bne_self_eq_false, gt_iff_lt, ge_iff_le, Int.lt_irrefl, Int.le_refl]
  first | refine call_k A2 ?_ | refine call_d A2 ?_
  simp -implicitDefEqProofs only [go_sem, reduceIte, Nat.reduceAdd, Nat.reduceSub, Nat.reduceMul, Nat.reduceLT, Nat.reduceLeDiff, Nat.reduceEqDiff, Nat.reduceBEq, Int.reduceLE, Int.reduceLT, Int.reduceToNat, Int.reduceMul, Int.reduceAdd, Int.reduceSub, Int.reduceNeg, Int.reduceEq, reduceCtorEq, Nat.reduceMod, Int.reduceBNe, Int.reduceBEq, Int.reduceGT, Int.reduceGE, Int.reduceNe, Int.cast_ofNat_Int, Int.natCast_zero, Int.natCast_one, bne_self_eq_false, gt_iff_lt, ge_iff_le, Int.lt_irrefl, Int.le_refl]
  first | refine call_k s_given5 ?_ | refine call_d s_given5 ?_
  simp -implicitDefEqProofs only [go_sem, reduceIte, Nat.reduceAdd, Nat.reduceSub, Nat.reduceMul, Nat.reduceLT, Nat.reduceLeDiff, Nat.reduceEqDiff, Nat.reduceBEq, Int.reduceLE, Int.reduceLT, Int.reduceToNat, Int.reduceMul, Int.reduceAdd, Int.reduceSub, Int.reduceNeg, Int.reduceEq, reduceCtorEq, Nat.reduceMod, Int.reduceBNe, Int.reduceBEq, Int.reduceGT, Int.reduceGE, Int.reduceNe, Int.cast_ofNat_Int, Int.natCast_zero, Int.natCast_one, bne_self_eq_false, gt_iff_lt, ge_iff_le, Int.lt_irrefl, Int.le_refl]
  first | refine call_k A3 ?_ | refine call_d A3 ?_
  simp -implicitDefEqProofs only [go_sem, reduceIte, Nat.reduceAdd, Nat.reduceSub, Nat.reduceMul, Nat.reduceLT, Nat.reduceLeDiff, Nat.reduceEqDiff, Nat.reduceBEq, Int.reduceLE, Int.reduceLT, Int.reduceToNat, Int.reduceMul, Int.reduceAdd, Int.reduceSub, Int.reduceNeg, Int.reduceEq, reduceCtorEq, Nat.reduceMod, Int.reduceBNe, Int.reduceBEq, Int.reduceGT, Int.reduceGE, Int.reduceNe, Int.cast_ofNat_Int, Int.natCast_zero, Int.natCast_one, bne_self_eq_false, gt_iff_lt, ge_iff_le, Int.lt_irrefl, Int.le_refl]
  first | refine call_k s_given5 ?_ | refine call_d s_given5 ?_
  simp -implicitDefEqProofs only [go_sem, reduceIte, Nat.reduceAdd, Nat.reduceSub, Nat.reduceMul, Nat.reduceLT, Nat.reduceLeDiff, Nat.reduceEqDiff, Nat.reduceBEq, Int.reduceLE, Int.reduceLT, Int.reduceToNat, Int.reduceMul, Int.reduceAdd, Int.reduceSub, Int.reduceNeg, Int.reduceEq, reduceCtorEq, Nat.reduceMod, Int.reduceBNe, Int.reduceBEq, Int.reduceGT, Int.reduceGE, Int.reduceNe, Int.cast_ofNat_Int, Int.natCast_zero, Int.natCast_one, bne_self_eq_false, gt_iff_lt, ge_iff_le, Int.lt_irrefl, Int.le_refl]
  first | refine call_k A4 ?_ | refine call_d A4 ?_
  simp -implicitDefEqProofs only [go_sem, reduceIte, Nat.reduceAdd, Nat.reduceSub, Nat.reduceMul, Nat.reduceLT, Nat.reduceLeDiff, Nat.reduceEqDiff, Nat.reduceBEq, Int.reduceLE, Int.reduceLT, Int.reduceToNat, Int.reduceMul, Int.reduceAdd, Int.reduceSub, Int.reduceNeg, Int.reduceEq, reduceCtorEq, Nat.reduceMod, Int.reduceBNe, Int.reduceBEq, Int.reduceGT, Int.reduceGE, Int.reduceNe, Int.cast_ofNat_Int, Int.natCast_zero, Int.natCast_one, bne_self_eq_false, gt_iff_lt, ge_iff_le, Int.lt_irrefl, Int.le_refl]
  first | refine call_k n1 ?_ | refine call_d n1 ?_
  simp -implicitDefEqProofs only [go_sem, reduceIte, Nat.reduceAdd, Nat.reduceSub, Nat.reduceMul, Nat.reduceLT, Nat.reduceLeDiff, Nat.reduceEqDiff, Nat.reduceBEq, Int.reduceLE, Int.reduceLT, Int.reduceToNat, Int.reduceMul, Int.reduceAdd, Int.reduceSub, Int.reduceNeg, Int.reduceEq, reduceCtorEq, Nat.reduceMod, Int.reduceBNe, Int.reduceBEq, Int.reduceGT, Int.reduceGE, Int.reduceNe, Int.cast_ofNat_Int, Int.natCast_zero, Int.natCast_one, bne_self_eq_false, gt_iff_lt, ge_iff_le, Int.lt_irrefl, Int.le_refl]
  first | refine call_k s_given5 ?_ | refine call_d s_given5 ?_
  simp -implicitDefEqProofs only [go_sem, reduceIte, Nat.reduceAdd, Nat.reduceSub, Nat.reduceMul, Nat.reduceLT, Nat.reduceLeDiff, Nat.reduceEqDiff, Nat.reduceBEq, Int.reduceLE, Int.reduceLT, Int.reduceToNat, Int.reduceMul, Int.reduceAdd, Int.reduceSub, Int.reduceNeg, Int.reduceEq, reduceCtorEq, Nat.reduceMod, Int.reduceBNe, Int.reduceBEq, Int.reduceGT, Int.reduceGE, Int.reduceNe, Int.cast_ofNat_Int, Int.natCast_zero, Int.natCast_one, bne_self_eq_false, gt_iff_lt, ge_iff_le, Int.lt_irrefl, Int.le_refl]
  first | refine call_k n2 ?_ | refine call_d n2 ?_
  simp -implicitDefEqProofs only [go_sem, reduceIte, Nat.reduceAdd, Nat.reduceSub, Nat.reduceMul, Nat.reduceLT, Nat.reduceLeDiff, Nat.reduceEqDiff, Nat.reduceBEq, Int.reduceLE, Int.reduceLT, Int.reduceToNat, Int.reduceMul, Int.reduceAdd, Int.reduceSub, Int.reduceNeg, Int.reduceEq, reduceCtorEq, Nat.reduceMod, Int.reduceBNe, Int.reduceBEq, Int.reduceGT, Int.reduceGE, Int.reduceNe, Int.cast_ofNat_Int, Int.natCast_zero, Int.natCast_one, bne_self_eq_false, gt_iff_lt, ge_iff_le, Int.lt_irrefl, Int.le_refl]
  first | refine call_k n3 ?_ | refine call_d n3 ?_
  simp -implicitDefEqProofs only [go_sem, reduceIte, Nat.reduceAdd, Nat.reduceSub, Nat.reduceMul, Nat.reduceLT, Nat.reduceLeDiff, Nat.reduceEqDiff, Nat.reduceBEq, Int.reduceLE, Int.reduceLT, Int.reduceToNat, Int.reduceMul, Int.reduceAdd, Int.reduceSub, Int.reduceNeg, Int.reduceEq, reduceCtorEq, Nat.reduceMod, Int.reduceBNe, Int.reduceBEq, Int.reduceGT, Int.reduceGE, Int.reduceNe, Int.cast_ofNat_Int, Int.natCast_zero, Int.natCast_one, bne_self_eq_false, gt_iff_lt, ge_iff_le, Int.lt_irrefl, Int.le_refl]
  first | refine call_k n4 ?_ | refine call_d n4 ?_
  simp -implicitDefEqProofs only [go_sem, reduceIte, Nat.reduceAdd, Nat.reduceSub, Nat.reduceMul, Nat.reduceLT, Nat.reduceLeDiff, Nat.reduceEqDiff, Nat.reduceBEq, Int.reduceLE, Int.reduceLT, Int.reduceToNat, Int.reduceMul, Int.reduceAdd, Int.reduceSub, Int.reduceNeg, Int.reduceEq, reduceCtorEq, Nat.reduceMod, Int.reduceBNe, Int.reduceBEq, Int.reduceGT, Int.reduceGE, Int.reduceNe, Int.cast_ofNat_Int, Int.natCast_zero, Int.natCast_one, bne_self_eq_false, gt_iff_lt, ge_iff_le, Int.lt_irrefl, Int.le_refl]
end Go.Proofs.Ytdpnjhooehadmaa.Pm

/-! PmSj -/
set_option linter.all false
set_option maxRecDepth 100000
namespace Go.Proofs.Ytdpnjhooehadmaa.Pm
open Go Go.RowKit

/-- Slots whose next number is the one behind the newest. -/
structure Slt.neat (s : Slt) : Prop where
  ok : s.ok
  next : s.next = nextO s
end Go.Proofs.Ytdpnjhooehadmaa.Pm
