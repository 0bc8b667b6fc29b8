/- frame and its reference: small functions. No law of Go's is stated here. -/
import Derived.Test.YtadnjellfiafaaaPmFa
set_option linter.all false
set_option maxRecDepth 100000
namespace Go.Proofs.Ytadnjellfiafaaa.Pm
open Go Go.RowKit

/-- A record. -/
structure Rec where
  num : Int
  data : List (BitVec 8)
  deriving DecidableEq
def Rec.cells (r : Rec) : List T := [.i .i64 r.num, .sl (bT r.data)]
def Rec.ok (r : Rec) : Bool := decide (0 ≤ r.num) && (decide (r.num ≤ 1000000000) && decide (r.data.length ≤ 1000))
theorem s_frame_valid (r : Rec) : Spec Try.prog 53 [.agg r.cells] [] (.t (.b r.ok) true) := by
  refine spec_k (hold mixed) b_frame_valid [(.b r.ok, true)] ?_
  have e3 : ((r.data.length : Int) ≤ 1000) = (r.data.length ≤ 1000) := propext (by omega)
  by_cases h0 : 0 ≤ r.num <;> by_cases h1 : r.num ≤ 1000000000 <;> simp -implicitDefEqProofs only [go_sem, reduceIte, Nat.reduceAdd, Nat.reduceSub, Nat.reduceMul, Nat.reduceLT, Nat.reduceLeDiff, Nat.reduceEqDiff, Nat.reduceBEq, Int.reduceLE, Int.reduceLT, Int.reduceToNat, Int.reduceMul, Int.reduceAdd, Int.reduceSub, Int.reduceNeg, Int.reduceEq, reduceCtorEq, Nat.reduceMod, Rec.cells, Rec.ok, h0, h1, e3, ge_iff_le]
theorem s_ref03_Valid (r : Rec) : Spec Try.prog 54 [.agg r.cells] [] (.t (.b r.ok) true) := by
  refine spec_k (hold mixed) b_ref03_Valid [(.b r.ok, true)] ?_
  have e3 : ((r.data.length : Int) ≤ 1000) = (r.data.length ≤ 1000) := propext (by omega)
  by_cases h0 : 0 ≤ r.num <;> by_cases h1 : r.num ≤ 1000000000 <;> simp -implicitDefEqProofs only [go_sem, reduceIte, Nat.reduceAdd, Nat.reduceSub, Nat.reduceMul, Nat.reduceLT, Nat.reduceLeDiff, Nat.reduceEqDiff, Nat.reduceBEq, Int.reduceLE, Int.reduceLT, Int.reduceToNat, Int.reduceMul, Int.reduceAdd, Int.reduceSub, Int.reduceNeg, Int.reduceEq, reduceCtorEq, Nat.reduceMod, Rec.cells, Rec.ok, h0, h1, e3, ge_iff_le]
theorem s_ref01_SameBytes (xs ys : List (BitVec 8)) (hx : xs.length ≤ 1000000) (hy : ys.length ≤ 1000000) : Spec Try.prog 36 [.sl (bT xs), .sl (bT ys)] [] (.t (.b (xs == ys)) true) := by
  refine spec_k (hold mixed) b_ref01_SameBytes [(.b (xs == ys), true)] ?_
  by_cases hl : xs.length = ys.length
  · simp -implicitDefEqProofs only [go_sem, reduceIte, Nat.reduceAdd, Nat.reduceSub, Nat.reduceMul, Nat.reduceLT, Nat.reduceLeDiff, Nat.reduceEqDiff, Nat.reduceBEq, Int.reduceLE, Int.reduceLT, Int.reduceToNat, Int.reduceMul, Int.reduceAdd, Int.reduceSub, Int.reduceNeg, Int.reduceEq, reduceCtorEq, Nat.reduceMod, hl, bne_self_eq_false]
    refine loop_l (α := Nat) (fun k => ⟨tmL [(0, .t (.sl (bT xs)) false), (1, .t (.sl (bT ys)) false), (5, .t (.i .i64 k) true)], []⟩) (fun k => xs.length - k) (fun k => k ≤ xs.length ∧ xs.take k = ys.take k) 0 (by simp -implicitDefEqProofs only [go_sem, reduceIte, Nat.reduceAdd, Nat.reduceSub, Nat.reduceMul, Nat.reduceLT, Nat.reduceLeDiff, Nat.reduceEqDiff, Nat.reduceBEq, Int.reduceLE, Int.reduceLT, Int.reduceToNat, Int.reduceMul, Int.reduceAdd, Int.reduceSub, Int.reduceNeg, Int.reduceEq, reduceCtorEq, Nat.reduceMod]; rfl) ⟨by omega, rfl⟩ ?_
    rintro k ⟨hk, he⟩ R hR
    simp -implicitDefEqProofs only [go_sem, reduceIte, Nat.reduceAdd, Nat.reduceSub, Nat.reduceMul, Nat.reduceLT, Nat.reduceLeDiff, Nat.reduceEqDiff, Nat.reduceBEq, Int.reduceLE, Int.reduceLT, Int.reduceToNat, Int.reduceMul, Int.reduceAdd, Int.reduceSub, Int.reduceNeg, Int.reduceEq, reduceCtorEq, Nat.reduceMod]
    refine wcond_mk (fun h => ?_) (fun h => ?_)
    · have hk' : k < xs.length := by have := of_decide_eq_true h; omega
      have hk2 : k < ys.length := by omega
      have hlt : (((k : Nat) : Int) < ((ys.length : Nat) : Int)) = True := eq_true (by omega)
      simp -implicitDefEqProofs only [go_sem, reduceIte, Nat.reduceAdd, Nat.reduceSub, Nat.reduceMul, Nat.reduceLT, Nat.reduceLeDiff, Nat.reduceEqDiff, Nat.reduceBEq, Int.reduceLE, Int.reduceLT, Int.reduceToNat, Int.reduceMul, Int.reduceAdd, Int.reduceSub, Int.reduceNeg, Int.reduceEq, reduceCtorEq, Nat.reduceMod, bT_get hk', bT_get hk2, hlt]
      refine wcond_mk (fun h => ?_) (fun h => ?_)
      · have hne : xs[k] ≠ ys[k] := fun e => by
          have h : ((((xs[k].toNat : Nat) : Int) != ((ys[k].toNat : Nat) : Int))) = true := h
          rw [e, bne_self_eq_false] at h
          exact Bool.false_ne_true h
        have h2 : (xs == ys) = false := by
          rw [beq_eq_false_iff_ne]
          intro e
          subst e
          exact hne rfl
        simp -implicitDefEqProofs only [go_sem, reduceIte, Nat.reduceAdd, Nat.reduceSub, Nat.reduceMul, Nat.reduceLT, Nat.reduceLeDiff, Nat.reduceEqDiff, Nat.reduceBEq, Int.reduceLE, Int.reduceLT, Int.reduceToNat, Int.reduceMul, Int.reduceAdd, Int.reduceSub, Int.reduceNeg, Int.reduceEq, reduceCtorEq, Nat.reduceMod, h2]
      · have heq : xs[k] = ys[k] := by
          have h : ((((xs[k].toNat : Nat) : Int) != ((ys[k].toNat : Nat) : Int))) = false := h
          rw [bne_eq_false_iff_eq] at h
          exact BitVec.eq_of_toNat_eq (by omega)
        simp -implicitDefEqProofs only [go_sem, reduceIte, Nat.reduceAdd, Nat.reduceSub, Nat.reduceMul, Nat.reduceLT, Nat.reduceLeDiff, Nat.reduceEqDiff, Nat.reduceBEq, Int.reduceLE, Int.reduceLT, Int.reduceToNat, Int.reduceMul, Int.reduceAdd, Int.reduceSub, Int.reduceNeg, Int.reduceEq, reduceCtorEq, Nat.reduceMod]
        refine hR (k + 1) _ ?_ ⟨by omega, ?_⟩ (by omega)
        · simp -implicitDefEqProofs only [go_sem, reduceIte, Nat.reduceAdd, Nat.reduceSub, Nat.reduceMul, Nat.reduceLT, Nat.reduceLeDiff, Nat.reduceEqDiff, Nat.reduceBEq, Int.reduceLE, Int.reduceLT, Int.reduceToNat, Int.reduceMul, Int.reduceAdd, Int.reduceSub, Int.reduceNeg, Int.reduceEq, reduceCtorEq, Nat.reduceMod, wrap_i64_id (show -9223372036854775808 ≤ (k : Int) + 1 by omega) (by omega), Int.natCast_add]
          rfl
        · rw [← List.take_append_getElem hk', ← List.take_append_getElem hk2, he, heq]
    · have hk' : ¬ k < xs.length := by have := of_decide_eq_false h; omega
      obtain rfl : k = xs.length := by omega
      have h2 : (xs == ys) = true := by
        rw [List.take_length] at he
        rw [beq_iff_eq, he, hl, List.take_length]
      simp -implicitDefEqProofs only [go_sem, reduceIte, Nat.reduceAdd, Nat.reduceSub, Nat.reduceMul, Nat.reduceLT, Nat.reduceLeDiff, Nat.reduceEqDiff, Nat.reduceBEq, Int.reduceLE, Int.reduceLT, Int.reduceToNat, Int.reduceMul, Int.reduceAdd, Int.reduceSub, Int.reduceNeg, Int.reduceEq, reduceCtorEq, Nat.reduceMod, h2]
  · have h1 : ((((xs.length : Nat) : Int) != ((ys.length : Nat) : Int))) = true := by rw [bne_iff_ne]; omega
    have h2 : (xs == ys) = false := by rw [beq_eq_false_iff_ne]; intro e; exact hl (by rw [e])
    simp -implicitDefEqProofs only [go_sem, reduceIte, Nat.reduceAdd, Nat.reduceSub, Nat.reduceMul, Nat.reduceLT, Nat.reduceLeDiff, Nat.reduceEqDiff, Nat.reduceBEq, Int.reduceLE, Int.reduceLT, Int.reduceToNat, Int.reduceMul, Int.reduceAdd, Int.reduceSub, Int.reduceNeg, Int.reduceEq, reduceCtorEq, Nat.reduceMod, h1, h2]

theorem bT_takeN (n : Nat) (bs : List (BitVec 8)) : List.take n (bT bs) = bT (bs.take n) := by simp [bT, List.map_take]
theorem bT_dropN (n : Nat) (bs : List (BitVec 8)) : List.drop n (bT bs) = bT (bs.drop n) := by simp [bT, List.map_drop]
def startsL (xs ys : List (BitVec 8)) : Bool := decide (ys.length ≤ xs.length) && (xs.take ys.length == ys)
theorem s_ref01_Starts (xs ys : List (BitVec 8)) (hx : xs.length ≤ 1000000) (hy : ys.length ≤ 1000000) : Spec Try.prog 67 [.sl (bT xs), .sl (bT ys)] [] (.t (.b (startsL xs ys)) true) := by
  refine spec_k (hold mixed) b_ref01_Starts [(.b (startsL xs ys), true)] ?_
  have e : ((xs.length : Int) ≥ (ys.length : Int)) = (ys.length ≤ xs.length) := propext (by omega)
  by_cases h : ys.length ≤ xs.length
  · simp -implicitDefEqProofs only [go_sem, reduceIte, Nat.reduceAdd, Nat.reduceSub, Nat.reduceMul, Nat.reduceLT, Nat.reduceLeDiff, Nat.reduceEqDiff, Nat.reduceBEq, Int.reduceLE, Int.reduceLT, Int.reduceToNat, Int.reduceMul, Int.reduceAdd, Int.reduceSub, Int.reduceNeg, Int.reduceEq, reduceCtorEq, Nat.reduceMod, e, h, bT_takeN, startsL]
    refine ⟨⟨by omega, .inl trivial⟩, ?_⟩
    refine call_k (s_ref01_SameBytes (xs.take ys.length) ys (by simp; omega) hy) ?_ (by simp -implicitDefEqProofs only [go_sem, reduceIte, Nat.reduceAdd, Nat.reduceSub, Nat.reduceMul, Nat.reduceLT, Nat.reduceLeDiff, Nat.reduceEqDiff, Nat.reduceBEq, Int.reduceLE, Int.reduceLT, Int.reduceToNat, Int.reduceMul, Int.reduceAdd, Int.reduceSub, Int.reduceNeg, Int.reduceEq, reduceCtorEq, Nat.reduceMod, Int.natCast_zero, Int.sub_zero])
    simp -implicitDefEqProofs only [go_sem, reduceIte, Nat.reduceAdd, Nat.reduceSub, Nat.reduceMul, Nat.reduceLT, Nat.reduceLeDiff, Nat.reduceEqDiff, Nat.reduceBEq, Int.reduceLE, Int.reduceLT, Int.reduceToNat, Int.reduceMul, Int.reduceAdd, Int.reduceSub, Int.reduceNeg, Int.reduceEq, reduceCtorEq, Nat.reduceMod, h]
  · simp -implicitDefEqProofs only [go_sem, reduceIte, Nat.reduceAdd, Nat.reduceSub, Nat.reduceMul, Nat.reduceLT, Nat.reduceLeDiff, Nat.reduceEqDiff, Nat.reduceBEq, Int.reduceLE, Int.reduceLT, Int.reduceToNat, Int.reduceMul, Int.reduceAdd, Int.reduceSub, Int.reduceNeg, Int.reduceEq, reduceCtorEq, Nat.reduceMod, e, h, startsL]

theorem s_ref03_Long (bs : List (BitVec 8)) : Spec Try.prog 23 [.sl (bT bs)] [] (.t (.b ((decide (2000 < bs.length) && decide (bs.length ≤ 20000)) || decide (21000 < bs.length))) true) := by
  refine spec_k (hold mixed) b_ref03_Long [(.b ((decide (2000 < bs.length) && decide (bs.length ≤ 20000)) || decide (21000 < bs.length)), true)] ?_
  have e0 : ((bs.length : Int) > 2000) = (2000 < bs.length) := propext (by omega)
  have e1 : ((bs.length : Int) ≤ 20000) = (bs.length ≤ 20000) := propext (by omega)
  have e2 : ((bs.length : Int) > 21000) = (21000 < bs.length) := propext (by omega)
  by_cases h0 : 2000 < bs.length <;> by_cases h1 : bs.length ≤ 20000 <;> by_cases h2 : 21000 < bs.length <;> simp -implicitDefEqProofs only [go_sem, reduceIte, Nat.reduceAdd, Nat.reduceSub, Nat.reduceMul, Nat.reduceLT, Nat.reduceLeDiff, Nat.reduceEqDiff, Nat.reduceBEq, Int.reduceLE, Int.reduceLT, Int.reduceToNat, Int.reduceMul, Int.reduceAdd, Int.reduceSub, Int.reduceNeg, Int.reduceEq, reduceCtorEq, Nat.reduceMod, e0, e1, e2, h0, h1, h2]
/-- The four bytes of a number. -/
def fourL (n : BitVec 32) : List (BitVec 8) := [n.setWidth 8, (n >>> 8).setWidth 8, (n >>> 16).setWidth 8, (n >>> 24).setWidth 8]
theorem s_ref03_four (n : BitVec 32) : Spec Try.prog 62 [.i .u32 n.toNat] [.row 0 1 (bT (fourL n)) true] (.row 0 0 0 4) := by
  refine spec_ko (hold mixed) b_ref03_four [.row 0 1 (bT (fourL n)) true] [.row 0 0 0 4] ?_
  simp -implicitDefEqProofs only [go_sem, reduceIte, Nat.reduceAdd, Nat.reduceSub, Nat.reduceMul, Nat.reduceLT, Nat.reduceLeDiff, Nat.reduceEqDiff, Nat.reduceBEq, Int.reduceLE, Int.reduceLT, Int.reduceToNat, Int.reduceMul, Int.reduceAdd, Int.reduceSub, Int.reduceNeg, Int.reduceEq, reduceCtorEq, Nat.reduceMod]
  refine ends_mk [0] ?_ ?_
  · simp -implicitDefEqProofs only [go_sem, reduceIte, Nat.reduceAdd, Nat.reduceSub, Nat.reduceMul, Nat.reduceLT, Nat.reduceLeDiff, Nat.reduceEqDiff, Nat.reduceBEq, Int.reduceLE, Int.reduceLT, Int.reduceToNat, Int.reduceMul, Int.reduceAdd, Int.reduceSub, Int.reduceNeg, Int.reduceEq, reduceCtorEq, Nat.reduceMod]
    exact ⟨rfl, Nat.le_refl _⟩
  · simp -implicitDefEqProofs only [go_sem, reduceIte, Nat.reduceAdd, Nat.reduceSub, Nat.reduceMul, Nat.reduceLT, Nat.reduceLeDiff, Nat.reduceEqDiff, Nat.reduceBEq, Int.reduceLE, Int.reduceLT, Int.reduceToNat, Int.reduceMul, Int.reduceAdd, Int.reduceSub, Int.reduceNeg, Int.reduceEq, reduceCtorEq, Nat.reduceMod]
end Go.Proofs.Ytadnjellfiafaaa.Pm
