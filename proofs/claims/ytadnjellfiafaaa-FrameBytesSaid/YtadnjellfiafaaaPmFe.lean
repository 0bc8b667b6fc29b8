/- frame and its reference: sizes. No law of Go's is stated here. -/
import Derived.Test.YtadnjellfiafaaaPmFd
set_option linter.all false
set_option maxRecDepth 100000
namespace Go.Proofs.Ytadnjellfiafaaa.Pm
open Go Go.RowKit

theorem Rec.ok_iff (r : Rec) : r.ok = true ↔ 0 ≤ r.num ∧ r.num ≤ 1000000000 ∧ r.data.length ≤ 1000 := by simp [Rec.ok]
theorem bytesL_length (r : Rec) : (bytesL r).length = 12 + r.data.length := by simp [bytesL, headL_length, fourL_length]; omega
def sizeT (r : Rec) : List (T × Bool) := if r.ok = true then [(.i .i64 (12 + r.data.length : Nat), true), (.i .i64 0, true)] else [(.i .i64 0, true), (.i .i64 8, true)]
theorem s_ref03_Size (r : Rec) : Spec Try.prog 31 [.agg r.cells] [] (resV ((sizeT r).map AV.ofT)) := by
  refine spec_k (hold mixed) b_ref03_Size (sizeT r) ?_
  simp -implicitDefEqProofs only [go_sem, reduceIte, Nat.reduceAdd, Nat.reduceSub, Nat.reduceMul, Nat.reduceLT, Nat.reduceLeDiff, Nat.reduceEqDiff, Nat.reduceBEq, Int.reduceLE, Int.reduceLT, Int.reduceToNat, Int.reduceMul, Int.reduceAdd, Int.reduceSub, Int.reduceNeg, Int.reduceEq, reduceCtorEq, Nat.reduceMod, Rec.cells]
  refine call_k (s_ref03_Valid r) ?_ (by simp -implicitDefEqProofs only [go_sem, reduceIte, Nat.reduceAdd, Nat.reduceSub, Nat.reduceMul, Nat.reduceLT, Nat.reduceLeDiff, Nat.reduceEqDiff, Nat.reduceBEq, Int.reduceLE, Int.reduceLT, Int.reduceToNat, Int.reduceMul, Int.reduceAdd, Int.reduceSub, Int.reduceNeg, Int.reduceEq, reduceCtorEq, Nat.reduceMod, Rec.cells])
  by_cases h : r.ok = true
  · obtain ⟨h0, h1, h2⟩ := r.ok_iff.1 h
    simp -implicitDefEqProofs only [go_sem, reduceIte, Nat.reduceAdd, Nat.reduceSub, Nat.reduceMul, Nat.reduceLT, Nat.reduceLeDiff, Nat.reduceEqDiff, Nat.reduceBEq, Int.reduceLE, Int.reduceLT, Int.reduceToNat, Int.reduceMul, Int.reduceAdd, Int.reduceSub, Int.reduceNeg, Int.reduceEq, reduceCtorEq, Nat.reduceMod, h, sizeT]
    refine call_k (s_ref03_Bytes r h0 h1 h2) ?_ (by simp -implicitDefEqProofs only [go_sem, reduceIte, Nat.reduceAdd, Nat.reduceSub, Nat.reduceMul, Nat.reduceLT, Nat.reduceLeDiff, Nat.reduceEqDiff, Nat.reduceBEq, Int.reduceLE, Int.reduceLT, Int.reduceToNat, Int.reduceMul, Int.reduceAdd, Int.reduceSub, Int.reduceNeg, Int.reduceEq, reduceCtorEq, Nat.reduceMod, Rec.cells])
    simp -implicitDefEqProofs only [go_sem, reduceIte, Nat.reduceAdd, Nat.reduceSub, Nat.reduceMul, Nat.reduceLT, Nat.reduceLeDiff, Nat.reduceEqDiff, Nat.reduceBEq, Int.reduceLE, Int.reduceLT, Int.reduceToNat, Int.reduceMul, Int.reduceAdd, Int.reduceSub, Int.reduceNeg, Int.reduceEq, reduceCtorEq, Nat.reduceMod, bytesL_length, h]
  · have h : r.ok = false := by simpa using h
    simp -implicitDefEqProofs only [go_sem, reduceIte, Nat.reduceAdd, Nat.reduceSub, Nat.reduceMul, Nat.reduceLT, Nat.reduceLeDiff, Nat.reduceEqDiff, Nat.reduceBEq, Int.reduceLE, Int.reduceLT, Int.reduceToNat, Int.reduceMul, Int.reduceAdd, Int.reduceSub, Int.reduceNeg, Int.reduceEq, reduceCtorEq, Nat.reduceMod, h, sizeT]
theorem s_frame_Size (r : Rec) (hd : r.data.length ≤ 1000000) : Spec Try.prog 30 [.agg r.cells] [] (resV ((sizeT r).map AV.ofT)) := by
  refine spec_k (hold mixed) b_frame_Size (sizeT r) ?_
  simp -implicitDefEqProofs only [go_sem, reduceIte, Nat.reduceAdd, Nat.reduceSub, Nat.reduceMul, Nat.reduceLT, Nat.reduceLeDiff, Nat.reduceEqDiff, Nat.reduceBEq, Int.reduceLE, Int.reduceLT, Int.reduceToNat, Int.reduceMul, Int.reduceAdd, Int.reduceSub, Int.reduceNeg, Int.reduceEq, reduceCtorEq, Nat.reduceMod, Rec.cells]
  refine call_k (s_frame_valid r) ?_ (by simp -implicitDefEqProofs only [go_sem, reduceIte, Nat.reduceAdd, Nat.reduceSub, Nat.reduceMul, Nat.reduceLT, Nat.reduceLeDiff, Nat.reduceEqDiff, Nat.reduceBEq, Int.reduceLE, Int.reduceLT, Int.reduceToNat, Int.reduceMul, Int.reduceAdd, Int.reduceSub, Int.reduceNeg, Int.reduceEq, reduceCtorEq, Nat.reduceMod, Rec.cells])
  by_cases h : r.ok = true
  · have hw : IntKind.i64.wrap (12 + (r.data.length : Int)) = ((12 + r.data.length : Nat) : Int) := by rw [wrap_i64_id (by omega) (by omega)]; omega
    simp -implicitDefEqProofs only [go_sem, reduceIte, Nat.reduceAdd, Nat.reduceSub, Nat.reduceMul, Nat.reduceLT, Nat.reduceLeDiff, Nat.reduceEqDiff, Nat.reduceBEq, Int.reduceLE, Int.reduceLT, Int.reduceToNat, Int.reduceMul, Int.reduceAdd, Int.reduceSub, Int.reduceNeg, Int.reduceEq, reduceCtorEq, Nat.reduceMod, h, sizeT, hw]
  · have h : r.ok = false := by simpa using h
    simp -implicitDefEqProofs only [go_sem, reduceIte, Nat.reduceAdd, Nat.reduceSub, Nat.reduceMul, Nat.reduceLT, Nat.reduceLeDiff, Nat.reduceEqDiff, Nat.reduceBEq, Int.reduceLE, Int.reduceLT, Int.reduceToNat, Int.reduceMul, Int.reduceAdd, Int.reduceSub, Int.reduceNeg, Int.reduceEq, reduceCtorEq, Nat.reduceMod, h, sizeT]
end Go.Proofs.Ytadnjellfiafaaa.Pm
