/- crc: the walk of the statement CrcTails. No law of Go's is stated here. -/
import Derived.Test.YtadnjellfiafaaaPmCx
set_option linter.all false
set_option maxRecDepth 100000
namespace Go.Proofs.Ytadnjellfiafaaa.Pm
open Go Go.RowKit

theorem eqb_nat8 (a b : BitVec 8) : (((a.toNat : Nat) : Int) == ((b.toNat : Nat) : Int)) = (a == b) := by
  by_cases h : a = b
  · subst h; simp
  · have h1 : (a == b) = false := beq_eq_false_iff_ne.2 h
    rw [h1, beq_eq_false_iff_ne]
    exact fun e => h (BitVec.eq_of_toNat_eq (by omega))
theorem eq_four (a0 a1 a2 a3 b0 b1 b2 b3 : BitVec 8) : eqCells [u8T a0, u8T a1, u8T a2, u8T a3] [u8T b0, u8T b1, u8T b2, u8T b3] = some (decide ([a0, a1, a2, a3] = [b0, b1, b2, b3])) := by
  simp only [eqCells, u8T, if_true, Option.map_some, eqb_nat8, Option.some.injEq]
  rw [Bool.eq_iff_iff]
  simp
theorem okEs_t (bs : List (BitVec 8)) : okEs 1 (bT bs) = True := eq_true (okEs_bT bs)
theorem okEs4 (k : IntKind) (a b c d : Int) : okEs 1 [[.i k a], [.i k b], [.i k c], [.i k d]] = True := by
  apply eq_true
  intro e he
  simp only [List.mem_cons, List.not_mem_nil, or_false] at he
  rcases he with rfl | rfl | rfl | rfl <;> simp [T.one]
theorem bT4 (a b c d : BitVec 8) : bT [a, b, c, d] = [[.i .u8 a.toNat], [.i .u8 b.toNat], [.i .u8 c.toNat], [.i .u8 d.toNat]] := rfl
theorem take_four (bs : List (BitVec 8)) (a b c d : List T) : List.take (bs.length + 4) (bT bs ++ [a, b, c, d]) = bT bs ++ [a, b, c, d] := List.take_of_length_le (by simp [bT_length])
theorem tails_law (bs : List (BitVec 8)) (o0 o1 o2 o3 : BitVec 8) (want : BitVec 32) : ((updV 0#32 (bs ++ [o0, o1, o2, o3]) == want) == decide ([o0, o1, o2, o3] = tailB bs want)) = true := by
  rw [beq_iff_eq, Bool.eq_iff_iff, beq_iff_eq, decide_eq_true_iff]
  exact upd_four bs o0 o1 o2 o3 want
theorem tails_law2 (bs : List (BitVec 8)) (o0 o1 o2 o3 : BitVec 8) (want : BitVec 32) : ((updV 0#32 (bs ++ [o0, o1, o2, o3]) == want) == (o0 == byteAt (tailV bs want) 0 && (o1 == byteAt (tailV bs want) 1 && (o2 == byteAt (tailV bs want) 2 && o3 == byteAt (tailV bs want) 3)))) = true := by
  have := tails_law bs o0 o1 o2 o3 want
  rw [← this]
  congr 1
  rw [Bool.eq_iff_iff]
  simp [tailB]
theorem s_law02_CrcTails (bs : List (BitVec 8)) (want : BitVec 32) (o0 o1 o2 o3 : BitVec 8) : Spec Try.prog 8 [.sl (bT bs), .i .u32 want.toNat, .agg [u8T o0, u8T o1, u8T o2, u8T o3]] [] (.t (.b true) true) := by
  refine spec_k (hold mixed) b_law02_CrcTails [(.b true, true)] ?_
  by_cases hl : bs.length ≤ 1000
  · have h1 : ((bs.length : Int) > 1000) = False := eq_false (by omega)
    simp -implicitDefEqProofs only [go_sem, reduceIte, Nat.reduceAdd, Nat.reduceSub, Nat.reduceMul, Nat.reduceLT, Nat.reduceLeDiff, Nat.reduceEqDiff, Nat.reduceBEq, Int.reduceLE, Int.reduceLT, Int.reduceToNat, Int.reduceMul, Int.reduceAdd, Int.reduceSub, Int.reduceNeg, Int.reduceEq, reduceCtorEq, Nat.reduceMod, h1]
    refine call_k (s_crc_Tail bs want (by omega)) ?_
    simp -implicitDefEqProofs only [go_sem, reduceIte, Nat.reduceAdd, Nat.reduceSub, Nat.reduceMul, Nat.reduceLT, Nat.reduceLeDiff, Nat.reduceEqDiff, Nat.reduceBEq, Int.reduceLE, Int.reduceLT, Int.reduceToNat, Int.reduceMul, Int.reduceAdd, Int.reduceSub, Int.reduceNeg, Int.reduceEq, reduceCtorEq, Nat.reduceMod, tailB, u8T, AV.one, T.one, Int.cast_ofNat_Int, okEs_t, (show bs.length * 1 ≤ room by unfold room; omega), List.flatten_cons]
    have hr : (bs.length + 4) * 1 ≤ room := by unfold room; omega
    simp -implicitDefEqProofs only [go_sem, reduceIte, Nat.reduceAdd, Nat.reduceSub, Nat.reduceMul, Nat.reduceLT, Nat.reduceLeDiff, Nat.reduceEqDiff, Nat.reduceBEq, Int.reduceLE, Int.reduceLT, Int.reduceToNat, Int.reduceMul, Int.reduceAdd, Int.reduceSub, Int.reduceNeg, Int.reduceEq, reduceCtorEq, Nat.reduceMod, okEs4, hr]
    refine call_d (s_crc_Sum' (bs ++ [byteAt (tailV bs want) 0, byteAt (tailV bs want) 1, byteAt (tailV bs want) 2, byteAt (tailV bs want) 3]) (by simp; omega)) ?_ (by simp -implicitDefEqProofs only [go_sem, reduceIte, Nat.reduceAdd, Nat.reduceSub, Nat.reduceMul, Nat.reduceLT, Nat.reduceLeDiff, Nat.reduceEqDiff, Nat.reduceBEq, Int.reduceLE, Int.reduceLT, Int.reduceToNat, Int.reduceMul, Int.reduceAdd, Int.reduceSub, Int.reduceNeg, Int.reduceEq, reduceCtorEq, Nat.reduceMod, bT_append, bT4, bT_take1, take_four, List.length_append, bT_length])
    rw [(upd_four bs _ _ _ _ want).2 rfl]
    simp -implicitDefEqProofs only [go_sem, reduceIte, Nat.reduceAdd, Nat.reduceSub, Nat.reduceMul, Nat.reduceLT, Nat.reduceLeDiff, Nat.reduceEqDiff, Nat.reduceBEq, Int.reduceLE, Int.reduceLT, Int.reduceToNat, Int.reduceMul, Int.reduceAdd, Int.reduceSub, Int.reduceNeg, Int.reduceEq, reduceCtorEq, Nat.reduceMod, okEs_t, (show bs.length * 1 ≤ room by unfold room; omega), okEs4, hr, Int.cast_ofNat_Int]
    refine call_d (s_crc_Sum' (bs ++ [o0, o1, o2, o3]) (by simp; omega)) ?_ (by simp -implicitDefEqProofs only [go_sem, reduceIte, Nat.reduceAdd, Nat.reduceSub, Nat.reduceMul, Nat.reduceLT, Nat.reduceLeDiff, Nat.reduceEqDiff, Nat.reduceBEq, Int.reduceLE, Int.reduceLT, Int.reduceToNat, Int.reduceMul, Int.reduceAdd, Int.reduceSub, Int.reduceNeg, Int.reduceEq, reduceCtorEq, Nat.reduceMod, bT_append, bT4, bT_take1, take_four, List.length_append, bT_length])
    have key := tails_law2 bs o0 o1 o2 o3 want
    simp -implicitDefEqProofs only [go_sem, reduceIte, Nat.reduceAdd, Nat.reduceSub, Nat.reduceMul, Nat.reduceLT, Nat.reduceLeDiff, Nat.reduceEqDiff, Nat.reduceBEq, Int.reduceLE, Int.reduceLT, Int.reduceToNat, Int.reduceMul, Int.reduceAdd, Int.reduceSub, Int.reduceNeg, Int.reduceEq, reduceCtorEq, Nat.reduceMod, eqb_nat, eqb_nat8, eqCells, key]
    refine call_k s_law02_alive ?_
    simp -implicitDefEqProofs only [go_sem, reduceIte, Nat.reduceAdd, Nat.reduceSub, Nat.reduceMul, Nat.reduceLT, Nat.reduceLeDiff, Nat.reduceEqDiff, Nat.reduceBEq, Int.reduceLE, Int.reduceLT, Int.reduceToNat, Int.reduceMul, Int.reduceAdd, Int.reduceSub, Int.reduceNeg, Int.reduceEq, reduceCtorEq, Nat.reduceMod]
  · have h1 : ((bs.length : Int) > 1000) = True := eq_true (by omega)
    simp -implicitDefEqProofs only [go_sem, reduceIte, Nat.reduceAdd, Nat.reduceSub, Nat.reduceMul, Nat.reduceLT, Nat.reduceLeDiff, Nat.reduceEqDiff, Nat.reduceBEq, Int.reduceLE, Int.reduceLT, Int.reduceToNat, Int.reduceMul, Int.reduceAdd, Int.reduceSub, Int.reduceNeg, Int.reduceEq, reduceCtorEq, Nat.reduceMod, h1]
    refine call_k s_law02_alive ?_
    simp -implicitDefEqProofs only [go_sem, reduceIte, Nat.reduceAdd, Nat.reduceSub, Nat.reduceMul, Nat.reduceLT, Nat.reduceLeDiff, Nat.reduceEqDiff, Nat.reduceBEq, Int.reduceLE, Int.reduceLT, Int.reduceToNat, Int.reduceMul, Int.reduceAdd, Int.reduceSub, Int.reduceNeg, Int.reduceEq, reduceCtorEq, Nat.reduceMod]
end Go.Proofs.Ytadnjellfiafaaa.Pm
