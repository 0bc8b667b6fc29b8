/- frame's reference: the bytes of a record. No law of Go's is stated here. -/
import Derived.Test.YtadnjellfiafaaaPmFc
set_option linter.all false
set_option maxRecDepth 100000
namespace Go.Proofs.Ytadnjellfiafaaa.Pm
open Go Go.RowKit

theorem s_ref02_Of (bs : List (BitVec 8)) (hl : bs.length ≤ 21000) : Spec Try.prog 42 [.sl (bT bs)] [] (.t (.i .u32 (updV 0#32 bs).toNat) true) := by
  refine spec_k (hold mixed) b_ref02_Of [(.i .u32 (updV 0#32 bs).toNat, true)] ?_
  simp -implicitDefEqProofs only [go_sem, reduceIte, Nat.reduceAdd, Nat.reduceSub, Nat.reduceMul, Nat.reduceLT, Nat.reduceLeDiff, Nat.reduceEqDiff, Nat.reduceBEq, Int.reduceLE, Int.reduceLT, Int.reduceToNat, Int.reduceMul, Int.reduceAdd, Int.reduceSub, Int.reduceNeg, Int.reduceEq, reduceCtorEq, Nat.reduceMod]
  refine call_k (s_ref02_Bytes (~~~0#32) bs hl) ?_ (by simp -implicitDefEqProofs only [go_sem, reduceIte, Nat.reduceAdd, Nat.reduceSub, Nat.reduceMul, Nat.reduceLT, Nat.reduceLeDiff, Nat.reduceEqDiff, Nat.reduceBEq, Int.reduceLE, Int.reduceLT, Int.reduceToNat, Int.reduceMul, Int.reduceAdd, Int.reduceSub, Int.reduceNeg, Int.reduceEq, reduceCtorEq, Nat.reduceMod]; rfl)
  simp -implicitDefEqProofs only [go_sem, reduceIte, Nat.reduceAdd, Nat.reduceSub, Nat.reduceMul, Nat.reduceLT, Nat.reduceLeDiff, Nat.reduceEqDiff, Nat.reduceBEq, Int.reduceLE, Int.reduceLT, Int.reduceToNat, Int.reduceMul, Int.reduceAdd, Int.reduceSub, Int.reduceNeg, Int.reduceEq, reduceCtorEq, Nat.reduceMod]
  rw [bytes_run]
  rfl
/-- The head of a record: its length, its number. -/
def headL (r : Rec) : List (BitVec 8) := fourL (BitVec.ofNat 32 r.data.length) ++ fourL (BitVec.ofInt 32 r.num)
def bytesL (r : Rec) : List (BitVec 8) := headL r ++ fourL (updV 0#32 (headL r ++ r.data)) ++ r.data
theorem wrap_u32_nat (n : Nat) : IntKind.u32.wrap (n : Int) = (((BitVec.ofNat 32 n).toNat : Nat) : Int) := by
  rw [IntKind.wrap_u32', BitVec.toNat_ofNat]; omega
theorem wrap_u32_int {i : Int} (h0 : 0 ≤ i) (h1 : i < 4294967296) : IntKind.u32.wrap i = (((BitVec.ofInt 32 i).toNat : Nat) : Int) := by
  rw [← bv32_of h0 (by omega), IntKind.wrap_u32']; omega
theorem fourL_length (n : BitVec 32) : (fourL n).length = 4 := rfl
theorem headL_length (r : Rec) : (headL r).length = 8 := rfl
theorem four_take (n : BitVec 32) : List.take 4 (bT (fourL n)) = bT (fourL n) := rfl
theorem head_eq (r : Rec) : bT (fourL (BitVec.ofNat 32 r.data.length)) ++ bT (fourL (BitVec.ofInt 32 r.num)) = bT (headL r) := (bT_append _ _).symm
theorem okEs_bT' (bs : List (BitVec 8)) : okEs 1 (bT bs) = True := eq_true (okEs_bT bs)
theorem head_take (r : Rec) : List.take 8 (bT (headL r)) = bT (headL r) := rfl
theorem take_all (xs ys : List (BitVec 8)) : List.take (xs.length + ys.length) (bT xs ++ bT ys) = bT xs ++ bT ys := List.take_of_length_le (by simp [bT_length])
theorem s_ref03_Bytes (r : Rec) (h0 : 0 ≤ r.num) (h1 : r.num ≤ 1000000000) (h2 : r.data.length ≤ 1000) : Spec Try.prog 55 [.agg r.cells] [.row 0 1 (bT (bytesL r)) true] (.row 0 0 0 (bytesL r).length) := by
  refine spec_ko (hold mixed) b_ref03_Bytes [.row 0 1 (bT (bytesL r)) true] [.row 0 0 0 (bytesL r).length] ?_
  simp -implicitDefEqProofs only [go_sem, reduceIte, Nat.reduceAdd, Nat.reduceSub, Nat.reduceMul, Nat.reduceLT, Nat.reduceLeDiff, Nat.reduceEqDiff, Nat.reduceBEq, Int.reduceLE, Int.reduceLT, Int.reduceToNat, Int.reduceMul, Int.reduceAdd, Int.reduceSub, Int.reduceNeg, Int.reduceEq, reduceCtorEq, Nat.reduceMod, Rec.cells, wrap_u32_nat, wrap_u32_int h0 (by omega)]
  refine call_d (s_ref03_four (BitVec.ofNat 32 r.data.length)) ?_
  simp -implicitDefEqProofs only [go_sem, reduceIte, Nat.reduceAdd, Nat.reduceSub, Nat.reduceMul, Nat.reduceLT, Nat.reduceLeDiff, Nat.reduceEqDiff, Nat.reduceBEq, Int.reduceLE, Int.reduceLT, Int.reduceToNat, Int.reduceMul, Int.reduceAdd, Int.reduceSub, Int.reduceNeg, Int.reduceEq, reduceCtorEq, Nat.reduceMod, wrap_u32_nat, wrap_u32_int h0 (by omega)]
  refine call_d (s_ref03_four (BitVec.ofInt 32 r.num)) ?_
  have take8 : List.take (8 + r.data.length) (bT (headL r) ++ bT r.data) = bT (headL r) ++ bT r.data := take_all (headL r) r.data
  have r8 : (8 ≤ room) = True := eq_true (by unfold room; omega)
  have rd : (8 + r.data.length ≤ room) = True := eq_true (by unfold room; omega)
  have rd1 : ((8 + r.data.length) * 1 ≤ room) = True := eq_true (by unfold room; omega)
  have r12 : (12 ≤ room) = True := eq_true (by unfold room; omega)
  have rd2 : ((12 + r.data.length) * 1 ≤ room) = True := eq_true (by unfold room; omega)
  simp -implicitDefEqProofs only [go_sem, reduceIte, Nat.reduceAdd, Nat.reduceSub, Nat.reduceMul, Nat.reduceLT, Nat.reduceLeDiff, Nat.reduceEqDiff, Nat.reduceBEq, Int.reduceLE, Int.reduceLT, Int.reduceToNat, Int.reduceMul, Int.reduceAdd, Int.reduceSub, Int.reduceNeg, Int.reduceEq, reduceCtorEq, Nat.reduceMod, fourL_length, four_take, okEs_bT', head_eq, headL_length, head_take, r8, rd, rd1]
  refine call_d (s_ref02_Of (headL r ++ r.data) (by rw [List.length_append, headL_length]; omega)) ?_ (by simp -implicitDefEqProofs only [go_sem, reduceIte, Nat.reduceAdd, Nat.reduceSub, Nat.reduceMul, Nat.reduceLT, Nat.reduceLeDiff, Nat.reduceEqDiff, Nat.reduceBEq, Int.reduceLE, Int.reduceLT, Int.reduceToNat, Int.reduceMul, Int.reduceAdd, Int.reduceSub, Int.reduceNeg, Int.reduceEq, reduceCtorEq, Nat.reduceMod, bT_append, List.length_append, headL_length, head_take, take8])
  simp -implicitDefEqProofs only [go_sem, reduceIte, Nat.reduceAdd, Nat.reduceSub, Nat.reduceMul, Nat.reduceLT, Nat.reduceLeDiff, Nat.reduceEqDiff, Nat.reduceBEq, Int.reduceLE, Int.reduceLT, Int.reduceToNat, Int.reduceMul, Int.reduceAdd, Int.reduceSub, Int.reduceNeg, Int.reduceEq, reduceCtorEq, Nat.reduceMod]
  refine call_d (s_ref03_four (updV 0#32 (headL r ++ r.data))) ?_
  simp -implicitDefEqProofs only [go_sem, reduceIte, Nat.reduceAdd, Nat.reduceSub, Nat.reduceMul, Nat.reduceLT, Nat.reduceLeDiff, Nat.reduceEqDiff, Nat.reduceBEq, Int.reduceLE, Int.reduceLT, Int.reduceToNat, Int.reduceMul, Int.reduceAdd, Int.reduceSub, Int.reduceNeg, Int.reduceEq, reduceCtorEq, Nat.reduceMod, fourL_length, four_take, okEs_bT', headL_length, head_take, r12, rd2]
  have eb : List.take 12 (bT (headL r) ++ bT (fourL (updV 0#32 (headL r ++ r.data)))) ++ bT r.data = bT (bytesL r) := by
    unfold bytesL
    rw [bT_append, bT_append]
    rfl
  have el : (bytesL r).length = 12 + r.data.length := by simp [bytesL, headL_length, fourL_length]; omega
  refine ⟨by rw [List.length_append, bT_length, bT_length]; exact Nat.le_refl _, ends_mk [1] ?_ ?_⟩
  · simp -implicitDefEqProofs only [go_sem, reduceIte, Nat.reduceAdd, Nat.reduceSub, Nat.reduceMul, Nat.reduceLT, Nat.reduceLeDiff, Nat.reduceEqDiff, Nat.reduceBEq, Int.reduceLE, Int.reduceLT, Int.reduceToNat, Int.reduceMul, Int.reduceAdd, Int.reduceSub, Int.reduceNeg, Int.reduceEq, reduceCtorEq, Nat.reduceMod, eb]
    exact List.take_of_length_le (by rw [bT_length]; exact Nat.le_refl _)
  · simp -implicitDefEqProofs only [go_sem, reduceIte, Nat.reduceAdd, Nat.reduceSub, Nat.reduceMul, Nat.reduceLT, Nat.reduceLeDiff, Nat.reduceEqDiff, Nat.reduceBEq, Int.reduceLE, Int.reduceLT, Int.reduceToNat, Int.reduceMul, Int.reduceAdd, Int.reduceSub, Int.reduceNeg, Int.reduceEq, reduceCtorEq, Nat.reduceMod, el]
end Go.Proofs.Ytadnjellfiafaaa.Pm
