/- crc: the walk of the statement CrcParts. No law of Go's is stated here. -/
import Derived.Test.YtadnjellfiafaaaPmCv
set_option linter.all false
set_option maxRecDepth 100000
namespace Go.Proofs.Ytadnjellfiafaaa.Pm
open Go Go.RowKit

theorem okEs_bT (bs : List (BitVec 8)) : okEs 1 (bT bs) := by
  intro e he
  simp only [bT, List.mem_map] at he
  obtain ⟨_, _, rfl⟩ := he
  simp [T.one]
theorem bT_append (xs ys : List (BitVec 8)) : bT (xs ++ ys) = bT xs ++ bT ys := by simp [bT]
theorem bT_take (xs ys : List (BitVec 8)) : List.take (xs.length + ys.length) (bT xs ++ bT ys) = bT xs ++ bT ys := List.take_of_length_le (by simp [bT_length])
theorem bT_take1 (xs : List (BitVec 8)) : List.take xs.length (bT xs) = bT xs := List.take_of_length_le (by simp [bT_length])
theorem int_gt (n m : Nat) : ((n : Int) > (m : Int)) = (m < n) := propext (by omega)
theorem s_law02_CrcParts (xs bs : List (BitVec 8)) : Spec Try.prog 4 [.sl (bT xs), .sl (bT bs)] [] (.t (.b true) true) := by
  refine spec_k (hold mixed) b_law02_CrcParts [(.b true, true)] ?_
  by_cases ha : xs.length ≤ 1000
  · by_cases hb : bs.length ≤ 1000
    · have h1 : ((xs.length : Int) > 1000) = False := eq_false (by omega)
      have h2 : ((bs.length : Int) > 1000) = False := eq_false (by omega)
      simp -implicitDefEqProofs only [go_sem, reduceIte, Nat.reduceAdd, Nat.reduceSub, Nat.reduceMul, Nat.reduceLT, Nat.reduceLeDiff, Nat.reduceEqDiff, Nat.reduceBEq, Int.reduceLE, Int.reduceLT, Int.reduceToNat, Int.reduceMul, Int.reduceAdd, Int.reduceSub, Int.reduceNeg, Int.reduceEq, reduceCtorEq, Nat.reduceMod, h1, h2]
      refine call_k (s_crc_Sum' xs (by omega)) ?_
      simp -implicitDefEqProofs only [go_sem, reduceIte, Nat.reduceAdd, Nat.reduceSub, Nat.reduceMul, Nat.reduceLT, Nat.reduceLeDiff, Nat.reduceEqDiff, Nat.reduceBEq, Int.reduceLE, Int.reduceLT, Int.reduceToNat, Int.reduceMul, Int.reduceAdd, Int.reduceSub, Int.reduceNeg, Int.reduceEq, reduceCtorEq, Nat.reduceMod]
      refine call_k (s_crc_Sum' bs (by omega)) ?_
      simp -implicitDefEqProofs only [go_sem, reduceIte, Nat.reduceAdd, Nat.reduceSub, Nat.reduceMul, Nat.reduceLT, Nat.reduceLeDiff, Nat.reduceEqDiff, Nat.reduceBEq, Int.reduceLE, Int.reduceLT, Int.reduceToNat, Int.reduceMul, Int.reduceAdd, Int.reduceSub, Int.reduceNeg, Int.reduceEq, reduceCtorEq, Nat.reduceMod]
      refine ⟨⟨okEs_bT xs, by unfold room; omega⟩, ⟨okEs_bT bs, by unfold room; omega⟩, ?_⟩
      refine call_k (s_crc_Sum' (xs ++ bs) (by simp; omega)) ?_ (by simp -implicitDefEqProofs only [go_sem, reduceIte, Nat.reduceAdd, Nat.reduceSub, Nat.reduceMul, Nat.reduceLT, Nat.reduceLeDiff, Nat.reduceEqDiff, Nat.reduceBEq, Int.reduceLE, Int.reduceLT, Int.reduceToNat, Int.reduceMul, Int.reduceAdd, Int.reduceSub, Int.reduceNeg, Int.reduceEq, reduceCtorEq, Nat.reduceMod, bT_append, List.length_append, bT_length, List.take_length, bT_take1, bT_take xs bs])
      simp -implicitDefEqProofs only [go_sem, reduceIte, Nat.reduceAdd, Nat.reduceSub, Nat.reduceMul, Nat.reduceLT, Nat.reduceLeDiff, Nat.reduceEqDiff, Nat.reduceBEq, Int.reduceLE, Int.reduceLT, Int.reduceToNat, Int.reduceMul, Int.reduceAdd, Int.reduceSub, Int.reduceNeg, Int.reduceEq, reduceCtorEq, Nat.reduceMod]
      refine call_k (s_crc_Join (updV 0#32 xs) (updV 0#32 bs) bs.length (by omega)) ?_
      simp -implicitDefEqProofs only [go_sem, reduceIte, Nat.reduceAdd, Nat.reduceSub, Nat.reduceMul, Nat.reduceLT, Nat.reduceLeDiff, Nat.reduceEqDiff, Nat.reduceBEq, Int.reduceLE, Int.reduceLT, Int.reduceToNat, Int.reduceMul, Int.reduceAdd, Int.reduceSub, Int.reduceNeg, Int.reduceEq, reduceCtorEq, Nat.reduceMod]
      refine call_k (s_crc_Update' (updV 0#32 xs) bs (by omega)) ?_
      simp -implicitDefEqProofs only [go_sem, reduceIte, Nat.reduceAdd, Nat.reduceSub, Nat.reduceMul, Nat.reduceLT, Nat.reduceLeDiff, Nat.reduceEqDiff, Nat.reduceBEq, Int.reduceLE, Int.reduceLT, Int.reduceToNat, Int.reduceMul, Int.reduceAdd, Int.reduceSub, Int.reduceNeg, Int.reduceEq, reduceCtorEq, Nat.reduceMod, upd_upd, ← upd_join]
      refine call_k s_law02_alive ?_
      simp -implicitDefEqProofs only [go_sem, reduceIte, Nat.reduceAdd, Nat.reduceSub, Nat.reduceMul, Nat.reduceLT, Nat.reduceLeDiff, Nat.reduceEqDiff, Nat.reduceBEq, Int.reduceLE, Int.reduceLT, Int.reduceToNat, Int.reduceMul, Int.reduceAdd, Int.reduceSub, Int.reduceNeg, Int.reduceEq, reduceCtorEq, Nat.reduceMod]
    · have h2 : ((bs.length : Int) > 1000) = True := eq_true (by omega)
      by_cases h1 : ((xs.length : Int) > 1000)
      · simp -implicitDefEqProofs only [go_sem, reduceIte, Nat.reduceAdd, Nat.reduceSub, Nat.reduceMul, Nat.reduceLT, Nat.reduceLeDiff, Nat.reduceEqDiff, Nat.reduceBEq, Int.reduceLE, Int.reduceLT, Int.reduceToNat, Int.reduceMul, Int.reduceAdd, Int.reduceSub, Int.reduceNeg, Int.reduceEq, reduceCtorEq, Nat.reduceMod, h1, h2]
        refine call_k s_law02_alive ?_
        simp -implicitDefEqProofs only [go_sem, reduceIte, Nat.reduceAdd, Nat.reduceSub, Nat.reduceMul, Nat.reduceLT, Nat.reduceLeDiff, Nat.reduceEqDiff, Nat.reduceBEq, Int.reduceLE, Int.reduceLT, Int.reduceToNat, Int.reduceMul, Int.reduceAdd, Int.reduceSub, Int.reduceNeg, Int.reduceEq, reduceCtorEq, Nat.reduceMod]
      · simp -implicitDefEqProofs only [go_sem, reduceIte, Nat.reduceAdd, Nat.reduceSub, Nat.reduceMul, Nat.reduceLT, Nat.reduceLeDiff, Nat.reduceEqDiff, Nat.reduceBEq, Int.reduceLE, Int.reduceLT, Int.reduceToNat, Int.reduceMul, Int.reduceAdd, Int.reduceSub, Int.reduceNeg, Int.reduceEq, reduceCtorEq, Nat.reduceMod, h1, h2]
        refine call_k s_law02_alive ?_
        simp -implicitDefEqProofs only [go_sem, reduceIte, Nat.reduceAdd, Nat.reduceSub, Nat.reduceMul, Nat.reduceLT, Nat.reduceLeDiff, Nat.reduceEqDiff, Nat.reduceBEq, Int.reduceLE, Int.reduceLT, Int.reduceToNat, Int.reduceMul, Int.reduceAdd, Int.reduceSub, Int.reduceNeg, Int.reduceEq, reduceCtorEq, Nat.reduceMod]
  · have h1 : ((xs.length : Int) > 1000) = True := eq_true (by omega)
    simp -implicitDefEqProofs only [go_sem, reduceIte, Nat.reduceAdd, Nat.reduceSub, Nat.reduceMul, Nat.reduceLT, Nat.reduceLeDiff, Nat.reduceEqDiff, Nat.reduceBEq, Int.reduceLE, Int.reduceLT, Int.reduceToNat, Int.reduceMul, Int.reduceAdd, Int.reduceSub, Int.reduceNeg, Int.reduceEq, reduceCtorEq, Nat.reduceMod, h1]
    refine call_k s_law02_alive ?_
    simp -implicitDefEqProofs only [go_sem, reduceIte, Nat.reduceAdd, Nat.reduceSub, Nat.reduceMul, Nat.reduceLT, Nat.reduceLeDiff, Nat.reduceEqDiff, Nat.reduceBEq, Int.reduceLE, Int.reduceLT, Int.reduceToNat, Int.reduceMul, Int.reduceAdd, Int.reduceSub, Int.reduceNeg, Int.reduceEq, reduceCtorEq, Nat.reduceMod]
end Go.Proofs.Ytadnjellfiafaaa.Pm
