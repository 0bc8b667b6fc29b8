/- crc and its reference: sums, updates, rows. No law of Go's is stated here. -/
import Derived.Test.YtadnjellfiafaaaPmCs
import Derived.Test.YtadnjellfiafaaaPmCq
set_option linter.all false
set_option maxRecDepth 100000
namespace Go.Proofs.Ytadnjellfiafaaa.Pm
open Go Go.RowKit

/-- What Update returns. -/
def updT (c : BitVec 32) (bs : List (BitVec 8)) : List (T × Bool) := if bs.length ≤ 20000 then [(.i .u32 (updV c bs).toNat, true), (.i .i64 0, true)] else [(.i .u32 0, true), (.i .i64 4, true)]
/-- What Row returns. -/
def rowT (i : Int) : List (T × Bool) := if i < 0 ∨ 255 < i then [(.i .u32 0, true), (.i .i64 2, true)] else [(.i .u32 (rowL (BitVec.ofInt 32 i)).toNat, true), (.i .i64 0, true)]

theorem not32a (c : BitVec 32) : T.i .u32 ((BitVec.ofInt 32 IntKind.u32.max ^^^ c).toNat : Int) = T.i .u32 ((~~~c).toNat : Int) := by rw [not32']
theorem s_crc_Update (c : BitVec 32) (bs : List (BitVec 8)) : Spec Try.prog 17 [.i .u32 c.toNat, .sl (bT bs)] [] (resV ((updT c bs).map AV.ofT)) := by
  refine spec_k (hold mixed) b_crc_Update (updT c bs) ?_
  simp -implicitDefEqProofs only [go_sem, reduceIte, Nat.reduceAdd, Nat.reduceSub, Nat.reduceMul, Nat.reduceLT, Nat.reduceLeDiff, Nat.reduceEqDiff, Nat.reduceBEq, Int.reduceLE, Int.reduceLT, Int.reduceToNat, Int.reduceMul, Int.reduceAdd, Int.reduceSub, Int.reduceNeg, Int.reduceEq, reduceCtorEq, Nat.reduceMod]
  refine wcond_mk (fun h => ?_) (fun h => ?_)
  · have hk : ¬ bs.length ≤ 20000 := by have := of_decide_eq_true h; omega
    simp -implicitDefEqProofs only [go_sem, reduceIte, Nat.reduceAdd, Nat.reduceSub, Nat.reduceMul, Nat.reduceLT, Nat.reduceLeDiff, Nat.reduceEqDiff, Nat.reduceBEq, Int.reduceLE, Int.reduceLT, Int.reduceToNat, Int.reduceMul, Int.reduceAdd, Int.reduceSub, Int.reduceNeg, Int.reduceEq, reduceCtorEq, Nat.reduceMod, updT, if_neg hk]
  · have hk : bs.length ≤ 20000 := by have := of_decide_eq_false h; omega
    simp -implicitDefEqProofs only [go_sem, reduceIte, Nat.reduceAdd, Nat.reduceSub, Nat.reduceMul, Nat.reduceLT, Nat.reduceLeDiff, Nat.reduceEqDiff, Nat.reduceBEq, Int.reduceLE, Int.reduceLT, Int.reduceToNat, Int.reduceMul, Int.reduceAdd, Int.reduceSub, Int.reduceNeg, Int.reduceEq, reduceCtorEq, Nat.reduceMod]
    refine call_k (s_crc_run (~~~c) bs (by omega)) ?_ (by simp -implicitDefEqProofs only [go_sem, reduceIte, Nat.reduceAdd, Nat.reduceSub, Nat.reduceMul, Nat.reduceLT, Nat.reduceLeDiff, Nat.reduceEqDiff, Nat.reduceBEq, Int.reduceLE, Int.reduceLT, Int.reduceToNat, Int.reduceMul, Int.reduceAdd, Int.reduceSub, Int.reduceNeg, Int.reduceEq, reduceCtorEq, Nat.reduceMod]; exact not32a c)
    simp -implicitDefEqProofs only [go_sem, reduceIte, Nat.reduceAdd, Nat.reduceSub, Nat.reduceMul, Nat.reduceLT, Nat.reduceLeDiff, Nat.reduceEqDiff, Nat.reduceBEq, Int.reduceLE, Int.reduceLT, Int.reduceToNat, Int.reduceMul, Int.reduceAdd, Int.reduceSub, Int.reduceNeg, Int.reduceEq, reduceCtorEq, Nat.reduceMod, updT, if_pos hk, updV]
    show T.i .u32 ((BitVec.ofInt 32 IntKind.u32.max ^^^ runL (~~~c) bs).toNat : Int) = _
    rw [not32']
theorem s_crc_Update' (c : BitVec 32) (bs : List (BitVec 8)) (hl : bs.length ≤ 20000) : Spec Try.prog 17 [.i .u32 c.toNat, .sl (bT bs)] [] (.tup [.t (.i .u32 (updV c bs).toNat) true, .t (.i .i64 0) true]) := by
  have := s_crc_Update c bs
  rw [updT, if_pos hl] at this
  exact this
theorem s_crc_Sum (bs : List (BitVec 8)) : Spec Try.prog 15 [.sl (bT bs)] [] (resV ((updT 0#32 bs).map AV.ofT)) := by
  refine spec_k (hold mixed) b_crc_Sum (updT 0#32 bs) ?_
  simp -implicitDefEqProofs only [go_sem, reduceIte, Nat.reduceAdd, Nat.reduceSub, Nat.reduceMul, Nat.reduceLT, Nat.reduceLeDiff, Nat.reduceEqDiff, Nat.reduceBEq, Int.reduceLE, Int.reduceLT, Int.reduceToNat, Int.reduceMul, Int.reduceAdd, Int.reduceSub, Int.reduceNeg, Int.reduceEq, reduceCtorEq, Nat.reduceMod]
  refine call_k (s_crc_Update 0#32 bs) ?_ (by simp -implicitDefEqProofs only [go_sem, reduceIte, Nat.reduceAdd, Nat.reduceSub, Nat.reduceMul, Nat.reduceLT, Nat.reduceLeDiff, Nat.reduceEqDiff, Nat.reduceBEq, Int.reduceLE, Int.reduceLT, Int.reduceToNat, Int.reduceMul, Int.reduceAdd, Int.reduceSub, Int.reduceNeg, Int.reduceEq, reduceCtorEq, Nat.reduceMod]; rfl) (fun h => (Bool.false_ne_true h).elim)
  by_cases hk : bs.length ≤ 20000
  · simp -implicitDefEqProofs only [go_sem, reduceIte, Nat.reduceAdd, Nat.reduceSub, Nat.reduceMul, Nat.reduceLT, Nat.reduceLeDiff, Nat.reduceEqDiff, Nat.reduceBEq, Int.reduceLE, Int.reduceLT, Int.reduceToNat, Int.reduceMul, Int.reduceAdd, Int.reduceSub, Int.reduceNeg, Int.reduceEq, reduceCtorEq, Nat.reduceMod, updT, if_pos hk]
  · simp -implicitDefEqProofs only [go_sem, reduceIte, Nat.reduceAdd, Nat.reduceSub, Nat.reduceMul, Nat.reduceLT, Nat.reduceLeDiff, Nat.reduceEqDiff, Nat.reduceBEq, Int.reduceLE, Int.reduceLT, Int.reduceToNat, Int.reduceMul, Int.reduceAdd, Int.reduceSub, Int.reduceNeg, Int.reduceEq, reduceCtorEq, Nat.reduceMod, updT, if_neg hk]
theorem s_crc_Sum' (bs : List (BitVec 8)) (hl : bs.length ≤ 20000) : Spec Try.prog 15 [.sl (bT bs)] [] (.tup [.t (.i .u32 (updV 0#32 bs).toNat) true, .t (.i .i64 0) true]) := by
  have := s_crc_Sum bs
  rw [updT, if_pos hl] at this
  exact this
theorem s_crc_Row (i : Int) : Spec Try.prog 19 [.i .i64 i] [] (resV ((rowT i).map AV.ofT)) := by
  refine spec_k (hold mixed) b_crc_Row (rowT i) ?_
  simp -implicitDefEqProofs only [go_sem, reduceIte, Nat.reduceAdd, Nat.reduceSub, Nat.reduceMul, Nat.reduceLT, Nat.reduceLeDiff, Nat.reduceEqDiff, Nat.reduceBEq, Int.reduceLE, Int.reduceLT, Int.reduceToNat, Int.reduceMul, Int.reduceAdd, Int.reduceSub, Int.reduceNeg, Int.reduceEq, reduceCtorEq, Nat.reduceMod]
  by_cases h0 : i < 0
  · simp -implicitDefEqProofs only [go_sem, reduceIte, Nat.reduceAdd, Nat.reduceSub, Nat.reduceMul, Nat.reduceLT, Nat.reduceLeDiff, Nat.reduceEqDiff, Nat.reduceBEq, Int.reduceLE, Int.reduceLT, Int.reduceToNat, Int.reduceMul, Int.reduceAdd, Int.reduceSub, Int.reduceNeg, Int.reduceEq, reduceCtorEq, Nat.reduceMod, rowT, h0, true_or]
  · by_cases h1 : 255 < i
    · simp -implicitDefEqProofs only [go_sem, reduceIte, Nat.reduceAdd, Nat.reduceSub, Nat.reduceMul, Nat.reduceLT, Nat.reduceLeDiff, Nat.reduceEqDiff, Nat.reduceBEq, Int.reduceLE, Int.reduceLT, Int.reduceToNat, Int.reduceMul, Int.reduceAdd, Int.reduceSub, Int.reduceNeg, Int.reduceEq, reduceCtorEq, Nat.reduceMod, rowT, h0, h1, gt_iff_lt, false_or]
    · simp -implicitDefEqProofs only [go_sem, reduceIte, Nat.reduceAdd, Nat.reduceSub, Nat.reduceMul, Nat.reduceLT, Nat.reduceLeDiff, Nat.reduceEqDiff, Nat.reduceBEq, Int.reduceLE, Int.reduceLT, Int.reduceToNat, Int.reduceMul, Int.reduceAdd, Int.reduceSub, Int.reduceNeg, Int.reduceEq, reduceCtorEq, Nat.reduceMod, rowT, h0, h1, gt_iff_lt, false_or]
      have hw : IntKind.u32.wrap i = ((BitVec.ofInt 32 i).toNat : Int) := by rw [← bv32_of (by omega) (by omega), IntKind.wrap_u32']; omega
      rw [hw]
      refine call_k (s_crc_row (BitVec.ofInt 32 i)) ?_
      simp -implicitDefEqProofs only [go_sem, reduceIte, Nat.reduceAdd, Nat.reduceSub, Nat.reduceMul, Nat.reduceLT, Nat.reduceLeDiff, Nat.reduceEqDiff, Nat.reduceBEq, Int.reduceLE, Int.reduceLT, Int.reduceToNat, Int.reduceMul, Int.reduceAdd, Int.reduceSub, Int.reduceNeg, Int.reduceEq, reduceCtorEq, Nat.reduceMod, h0, h1, or_self]
theorem s_crc_Row' (i : Int) (h0 : 0 ≤ i) (h1 : i ≤ 255) : Spec Try.prog 19 [.i .i64 i] [] (.tup [.t (.i .u32 (rowL (BitVec.ofInt 32 i)).toNat) true, .t (.i .i64 0) true]) := by
  have := s_crc_Row i
  rw [rowT, if_neg (by omega)] at this
  exact this
end Go.Proofs.Ytadnjellfiafaaa.Pm
