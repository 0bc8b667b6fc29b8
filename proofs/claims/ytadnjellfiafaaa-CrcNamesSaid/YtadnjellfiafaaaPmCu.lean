/- crc: products of polynomials, joins, tails. No law of Go's is stated here. -/
import Derived.Test.YtadnjellfiafaaaPmCt
import Derived.Test.YtadnjellfiafaaaPmKb
set_option linter.all false
set_option maxRecDepth 100000
namespace Go.Proofs.Ytadnjellfiafaaa.Pm
open Go Go.RowKit

/-- The bit that the n-th step from the end looks at. -/
def bitN : Nat → BitVec 32
  | 0 => 0#32
  | n + 1 => 1#32 <<< n
theorem bitN_shr (n : Nat) (h : n < 32) : bitN (n + 1) >>> 1 = bitN n := by
  cases n with
  | zero => decide
  | succ n =>
    show (1#32 <<< (n + 1)) >>> 1 = 1#32 <<< n
    apply BitVec.eq_of_getLsbD_eq
    intro i hi
    rw [BitVec.getLsbD_ushiftRight, BitVec.getLsbD_shiftLeft, BitVec.getLsbD_shiftLeft, BitVec.getLsbD_one, BitVec.getLsbD_one]
    by_cases e : i = n
    · subst e; simp [show 1 + i < 32 by omega, hi]; omega
    · by_cases h2 : i < n
      · simp [hi, h2, show 1 + i < n + 1 by omega]
      · simp [show ¬ i < n by omega, show ¬ (1 + i < n + 1) by omega, show i - n ≠ 0 by omega, show ¬ (1 + i - (n + 1) = 0) by omega]
theorem bitN_pos (n : Nat) (h : n < 32) : 0 < (bitN (n + 1)).toNat := by
  show 0 < (1#32 <<< n).toNat
  rw [BitVec.toNat_shiftLeft, show (1#32).toNat = 1 from rfl, Nat.one_shiftLeft, Nat.mod_eq_of_lt (Nat.pow_lt_pow_right (by omega) h)]
  exact Nat.two_pow_pos n
theorem and_bitN (a : BitVec 32) (n : Nat) (h : n < 32) : a &&& bitN (n + 1) = if a.getLsbD n then bitN (n + 1) else 0#32 := by
  show a &&& (1#32 <<< n) = if a.getLsbD n then 1#32 <<< n else 0#32
  apply BitVec.eq_of_getLsbD_eq
  intro i hi
  rw [BitVec.getLsbD_and, BitVec.getLsbD_shiftLeft, BitVec.getLsbD_one]
  by_cases e : i = n
  · subst e
    cases ha : a.getLsbD i <;> simp [ha, hi]
  · have : (decide (i < 32) && !decide (i < n) && (decide (0 < 32) && decide (i - n = 0))) = false := by
      by_cases h2 : i < n
      · simp [h2]
      · simp [show ¬ i ≤ n by omega]; omega
    cases ha : a.getLsbD n
    · simp; intro _ _ _; omega
    · simp [BitVec.getLsbD_shiftLeft, BitVec.getLsbD_one]; intros; omega

theorem s_crc_times (a b : BitVec 32) : Spec Try.prog 47 [.i .u32 a.toNat, .i .u32 b.toNat] [] (.t (.i .u32 (timesL a b).toNat) true) := by
  refine spec_k (hold mixed) b_crc_times [(.i .u32 (timesL a b).toNat, true)] ?_
  simp -implicitDefEqProofs only [go_sem, reduceIte, Nat.reduceAdd, Nat.reduceSub, Nat.reduceMul, Nat.reduceLT, Nat.reduceLeDiff, Nat.reduceEqDiff, Nat.reduceBEq, Int.reduceLE, Int.reduceLT, Int.reduceToNat, Int.reduceMul, Int.reduceAdd, Int.reduceSub, Int.reduceNeg, Int.reduceEq, reduceCtorEq, Nat.reduceMod]
  refine loop_l (α := Nat × BitVec 32 × BitVec 32) (fun p => ⟨tmL [(0, .t (.i .u32 a.toNat) true), (1, .t (.i .u32 p.2.2.toNat) true), (5, .t (.i .u32 p.2.1.toNat) true), (6, .t (.i .u32 (bitN p.1).toNat) true)], []⟩) (fun p => p.1)
    (fun p => p.1 ≤ 32 ∧ tmsA a p.1 p.2.1 p.2.2 = timesL a b) (32, 0#32, b) (by simp -implicitDefEqProofs only [go_sem, reduceIte, Nat.reduceAdd, Nat.reduceSub, Nat.reduceMul, Nat.reduceLT, Nat.reduceLeDiff, Nat.reduceEqDiff, Nat.reduceBEq, Int.reduceLE, Int.reduceLT, Int.reduceToNat, Int.reduceMul, Int.reduceAdd, Int.reduceSub, Int.reduceNeg, Int.reduceEq, reduceCtorEq, Nat.reduceMod]; rfl) ⟨by omega, rfl⟩ ?_
  rintro ⟨n, o, y⟩ ⟨hn, hy⟩ R hR
  simp only at hn hy
  simp -implicitDefEqProofs only [go_sem, reduceIte, Nat.reduceAdd, Nat.reduceSub, Nat.reduceMul, Nat.reduceLT, Nat.reduceLeDiff, Nat.reduceEqDiff, Nat.reduceBEq, Int.reduceLE, Int.reduceLT, Int.reduceToNat, Int.reduceMul, Int.reduceAdd, Int.reduceSub, Int.reduceNeg, Int.reduceEq, reduceCtorEq, Nat.reduceMod]
  refine wcond_mk (fun h => ?_) (fun h => ?_)
  · have h0 : 0 < (bitN n).toNat := by have := of_decide_eq_true h; omega
    obtain ⟨n, rfl⟩ : ∃ m, n = m + 1 := by
      cases n with
      | zero => exact absurd h0 (by decide)
      | succ m => exact ⟨m, rfl⟩
    have hb := and_bitN a n (by omega)
    have hp := bitN_pos n (by omega)
    simp -implicitDefEqProofs only [go_sem, reduceIte, Nat.reduceAdd, Nat.reduceSub, Nat.reduceMul, Nat.reduceLT, Nat.reduceLeDiff, Nat.reduceEqDiff, Nat.reduceBEq, Int.reduceLE, Int.reduceLT, Int.reduceToNat, Int.reduceMul, Int.reduceAdd, Int.reduceSub, Int.reduceNeg, Int.reduceEq, reduceCtorEq, Nat.reduceMod, bitN_shr n (show n < 32 by omega)]
    refine wcond_mk (fun h => ?_) (fun h => ?_)
    · replace h : decide ((((a &&& bitN (n + 1) : BitVec 32).toNat : Nat) : Int) > 0) = true := h
      have ha : a.getLsbD n = true := by
        cases ha : a.getLsbD n with
        | true => rfl
        | false => rw [hb, ha] at h; simp at h
      simp -implicitDefEqProofs only [go_sem, reduceIte, Nat.reduceAdd, Nat.reduceSub, Nat.reduceMul, Nat.reduceLT, Nat.reduceLeDiff, Nat.reduceEqDiff, Nat.reduceBEq, Int.reduceLE, Int.reduceLT, Int.reduceToNat, Int.reduceMul, Int.reduceAdd, Int.reduceSub, Int.reduceNeg, Int.reduceEq, reduceCtorEq, Nat.reduceMod, bitN_shr n (show n < 32 by omega)]
      refine hR (n, o ^^^ y, rowS y) _ ?_ ⟨by simp only; omega, ?_⟩ (by simp only; omega)
      · simp -implicitDefEqProofs only [go_sem, reduceIte, Nat.reduceAdd, Nat.reduceSub, Nat.reduceMul, Nat.reduceLT, Nat.reduceLeDiff, Nat.reduceEqDiff, Nat.reduceBEq, Int.reduceLE, Int.reduceLT, Int.reduceToNat, Int.reduceMul, Int.reduceAdd, Int.reduceSub, Int.reduceNeg, Int.reduceEq, reduceCtorEq, Nat.reduceMod]
        rfl
      · simp only
        rw [← hy, tmsA, if_pos ha]
    · replace h : decide ((((a &&& bitN (n + 1) : BitVec 32).toNat : Nat) : Int) > 0) = false := h
      have ha : ¬ a.getLsbD n = true := fun ha => by
        rw [hb, if_pos ha] at h
        have := of_decide_eq_false h
        omega
      simp -implicitDefEqProofs only [go_sem, reduceIte, Nat.reduceAdd, Nat.reduceSub, Nat.reduceMul, Nat.reduceLT, Nat.reduceLeDiff, Nat.reduceEqDiff, Nat.reduceBEq, Int.reduceLE, Int.reduceLT, Int.reduceToNat, Int.reduceMul, Int.reduceAdd, Int.reduceSub, Int.reduceNeg, Int.reduceEq, reduceCtorEq, Nat.reduceMod, bitN_shr n (show n < 32 by omega)]
      refine hR (n, o, rowS y) _ ?_ ⟨by simp only; omega, ?_⟩ (by simp only; omega)
      · simp -implicitDefEqProofs only [go_sem, reduceIte, Nat.reduceAdd, Nat.reduceSub, Nat.reduceMul, Nat.reduceLT, Nat.reduceLeDiff, Nat.reduceEqDiff, Nat.reduceBEq, Int.reduceLE, Int.reduceLT, Int.reduceToNat, Int.reduceMul, Int.reduceAdd, Int.reduceSub, Int.reduceNeg, Int.reduceEq, reduceCtorEq, Nat.reduceMod]
        rfl
      · simp only
        rw [← hy, tmsA, if_neg ha]
  · have h0 : ¬ 0 < (bitN n).toNat := by have := of_decide_eq_false h; omega
    obtain rfl : n = 0 := by
      cases n with
      | zero => rfl
      | succ m => exact absurd (bitN_pos m (by omega)) h0
    simp -implicitDefEqProofs only [go_sem, reduceIte, Nat.reduceAdd, Nat.reduceSub, Nat.reduceMul, Nat.reduceLT, Nat.reduceLeDiff, Nat.reduceEqDiff, Nat.reduceBEq, Int.reduceLE, Int.reduceLT, Int.reduceToNat, Int.reduceMul, Int.reduceAdd, Int.reduceSub, Int.reduceNeg, Int.reduceEq, reduceCtorEq, Nat.reduceMod]
    rw [← hy]
    rfl

theorem and_i64_one (n : Nat) (h : n < 9223372036854775808) : IntKind.i64.wrap (((BitVec.ofInt 64 (n : Int) &&& BitVec.ofInt 64 1 : BitVec 64).toNat : Nat) : Int) = ((n % 2 : Nat) : Int) := by
  have e : (BitVec.ofInt 64 (n : Int) &&& BitVec.ofInt 64 1 : BitVec 64).toNat = n % 2 := by
    rw [BitVec.toNat_and, BitVec.ofInt_natCast, BitVec.toNat_ofNat, Nat.mod_eq_of_lt (by omega), show (BitVec.ofInt 64 1).toNat = 1 by decide, Nat.and_one_is_mod]
  rw [e, wrap_i64_id (by omega) (by omega)]
theorem fdiv_two (n : Nat) : Int.fdiv (n : Int) (2 ^ 1) = ((n / 2 : Nat) : Int) := by
  rw [Int.fdiv_eq_ediv_of_nonneg _ (by decide)]
  omega
theorem half_odd {n : Nat} (p : Nat) (h : n % 2 = 1) : p + n / 2 * (p * 2) = n * p := by
  have e : n = 2 * (n / 2) + 1 := by omega
  generalize n / 2 = k at e
  subst e
  rw [Nat.add_mul, Nat.one_mul, Nat.mul_comm p 2, ← Nat.mul_assoc, Nat.mul_comm k 2, Nat.add_comm]
theorem half_even {n : Nat} (p : Nat) (h : n % 2 = 0) : n / 2 * (p * 2) = n * p := by
  have e : n = 2 * (n / 2) := by omega
  generalize n / 2 = k at e
  subst e
  rw [Nat.mul_comm p 2, ← Nat.mul_assoc, Nat.mul_comm k 2]
theorem pow_two_twice (j : Nat) (x : BitVec 32) : itn rowS (8 * 2 ^ j + 8 * 2 ^ j) x = itn rowS (8 * 2 ^ (j + 1)) x := by
  rw [show 8 * 2 ^ (j + 1) = 8 * 2 ^ j + 8 * 2 ^ j by rw [Nat.pow_succ]; omega]
theorem shift_add (d e : Nat) (a : BitVec 32) : itn rowS (8 * e) (shiftL d a) = shiftL (d + e) a := by
  unfold shiftL
  rw [Nat.mul_add, itn_add]
/-- What Join returns. -/
def joinT (a b : BitVec 32) (n : Int) : List (T × Bool) := if n < 0 ∨ 1000000000 < n then [(.i .u32 0, true), (.i .i64 2, true)] else [(.i .u32 (shiftL n.toNat a ^^^ b).toNat, true), (.i .i64 0, true)]

theorem s_crc_Join (a b : BitVec 32) (m : Nat) (hm : m ≤ 1000000000) : Spec Try.prog 22 [.i .u32 a.toNat, .i .u32 b.toNat, .i .i64 m] [] (.tup [.t (.i .u32 (shiftL m a ^^^ b).toNat) true, .t (.i .i64 0) true]) := by
  refine spec_k (hold mixed) b_crc_Join [(.i .u32 (shiftL m a ^^^ b).toNat, true), (.i .i64 0, true)] ?_
  simp -implicitDefEqProofs only [go_sem, reduceIte, Nat.reduceAdd, Nat.reduceSub, Nat.reduceMul, Nat.reduceLT, Nat.reduceLeDiff, Nat.reduceEqDiff, Nat.reduceBEq, Int.reduceLE, Int.reduceLT, Int.reduceToNat, Int.reduceMul, Int.reduceAdd, Int.reduceSub, Int.reduceNeg, Int.reduceEq, reduceCtorEq, Nat.reduceMod, gt_iff_lt, show ((m : Int) < 0) = False from eq_false (by omega), show ((1000000000 : Int) < m) = False from eq_false (by omega)]
  refine loop_l (α := Nat × Nat × Nat) (fun p => ⟨tmL [(0, .t (.i .u32 (shiftL p.1 a).toNat) true), (1, .t (.i .u32 b.toNat) true), (2, .t (.i .i64 p.2.2) true), (8, .t (.i .u32 (itn rowS (8 * 2 ^ p.2.1) oneP).toNat) true)], []⟩) (fun p => p.2.2)
    (fun p => p.1 + p.2.2 * 2 ^ p.2.1 = m) (0, 0, m) (by simp -implicitDefEqProofs only [go_sem, reduceIte, Nat.reduceAdd, Nat.reduceSub, Nat.reduceMul, Nat.reduceLT, Nat.reduceLeDiff, Nat.reduceEqDiff, Nat.reduceBEq, Int.reduceLE, Int.reduceLT, Int.reduceToNat, Int.reduceMul, Int.reduceAdd, Int.reduceSub, Int.reduceNeg, Int.reduceEq, reduceCtorEq, Nat.reduceMod]; rfl) (by simp) ?_
  rintro ⟨d, j, n⟩ hG R hR
  simp only at hG
  simp -implicitDefEqProofs only [go_sem, reduceIte, Nat.reduceAdd, Nat.reduceSub, Nat.reduceMul, Nat.reduceLT, Nat.reduceLeDiff, Nat.reduceEqDiff, Nat.reduceBEq, Int.reduceLE, Int.reduceLT, Int.reduceToNat, Int.reduceMul, Int.reduceAdd, Int.reduceSub, Int.reduceNeg, Int.reduceEq, reduceCtorEq, Nat.reduceMod]
  refine wcond_mk (fun h => ?_) (fun h => ?_)
  · have h0 : 0 < n := by have := of_decide_eq_true h; omega
    have hn : n ≤ m := by
      have : n ≤ n * 2 ^ j := Nat.le_mul_of_pos_right n (Nat.two_pow_pos j)
      omega
    simp -implicitDefEqProofs only [go_sem, reduceIte, Nat.reduceAdd, Nat.reduceSub, Nat.reduceMul, Nat.reduceLT, Nat.reduceLeDiff, Nat.reduceEqDiff, Nat.reduceBEq, Int.reduceLE, Int.reduceLT, Int.reduceToNat, Int.reduceMul, Int.reduceAdd, Int.reduceSub, Int.reduceNeg, Int.reduceEq, reduceCtorEq, Nat.reduceMod]
    refine wcond_mk (fun h => ?_) (fun h => ?_)
    · have ho : n % 2 = 1 := by
        have h' : (((n % 2 : Nat) : Int) == 1) = true := by rw [← and_i64_one n (by omega)]; exact h
        have := eq_of_beq h'
        omega
      simp -implicitDefEqProofs only [go_sem, reduceIte, Nat.reduceAdd, Nat.reduceSub, Nat.reduceMul, Nat.reduceLT, Nat.reduceLeDiff, Nat.reduceEqDiff, Nat.reduceBEq, Int.reduceLE, Int.reduceLT, Int.reduceToNat, Int.reduceMul, Int.reduceAdd, Int.reduceSub, Int.reduceNeg, Int.reduceEq, reduceCtorEq, Nat.reduceMod]
      refine call_k (s_crc_times (shiftL d a) (itn rowS (8 * 2 ^ j) oneP)) ?_
      simp -implicitDefEqProofs only [go_sem, reduceIte, Nat.reduceAdd, Nat.reduceSub, Nat.reduceMul, Nat.reduceLT, Nat.reduceLeDiff, Nat.reduceEqDiff, Nat.reduceBEq, Int.reduceLE, Int.reduceLT, Int.reduceToNat, Int.reduceMul, Int.reduceAdd, Int.reduceSub, Int.reduceNeg, Int.reduceEq, reduceCtorEq, Nat.reduceMod]
      refine call_k (s_crc_times (itn rowS (8 * 2 ^ j) oneP) (itn rowS (8 * 2 ^ j) oneP)) ?_
      simp -implicitDefEqProofs only [go_sem, reduceIte, Nat.reduceAdd, Nat.reduceSub, Nat.reduceMul, Nat.reduceLT, Nat.reduceLeDiff, Nat.reduceEqDiff, Nat.reduceBEq, Int.reduceLE, Int.reduceLT, Int.reduceToNat, Int.reduceMul, Int.reduceAdd, Int.reduceSub, Int.reduceNeg, Int.reduceEq, reduceCtorEq, Nat.reduceMod]
      rw [times_itn, times_itn, ← itn_add, pow_two_twice, shift_add, fdiv_two]
      refine hR (d + 2 ^ j, j + 1, n / 2) _ (by simp -implicitDefEqProofs only [go_sem, reduceIte, Nat.reduceAdd, Nat.reduceSub, Nat.reduceMul, Nat.reduceLT, Nat.reduceLeDiff, Nat.reduceEqDiff, Nat.reduceBEq, Int.reduceLE, Int.reduceLT, Int.reduceToNat, Int.reduceMul, Int.reduceAdd, Int.reduceSub, Int.reduceNeg, Int.reduceEq, reduceCtorEq, Nat.reduceMod]) ?_ (by simp only; omega)
      simp only
      rw [← hG, Nat.pow_succ, Nat.add_assoc, half_odd _ ho]
    · have ho : n % 2 = 0 := by
        have h' : (((n % 2 : Nat) : Int) == 1) = false := by rw [← and_i64_one n (by omega)]; exact h
        have := ne_of_beq_false h'
        omega
      simp -implicitDefEqProofs only [go_sem, reduceIte, Nat.reduceAdd, Nat.reduceSub, Nat.reduceMul, Nat.reduceLT, Nat.reduceLeDiff, Nat.reduceEqDiff, Nat.reduceBEq, Int.reduceLE, Int.reduceLT, Int.reduceToNat, Int.reduceMul, Int.reduceAdd, Int.reduceSub, Int.reduceNeg, Int.reduceEq, reduceCtorEq, Nat.reduceMod]
      refine call_k (s_crc_times (itn rowS (8 * 2 ^ j) oneP) (itn rowS (8 * 2 ^ j) oneP)) ?_
      simp -implicitDefEqProofs only [go_sem, reduceIte, Nat.reduceAdd, Nat.reduceSub, Nat.reduceMul, Nat.reduceLT, Nat.reduceLeDiff, Nat.reduceEqDiff, Nat.reduceBEq, Int.reduceLE, Int.reduceLT, Int.reduceToNat, Int.reduceMul, Int.reduceAdd, Int.reduceSub, Int.reduceNeg, Int.reduceEq, reduceCtorEq, Nat.reduceMod]
      rw [times_itn, ← itn_add, pow_two_twice, fdiv_two]
      refine hR (d, j + 1, n / 2) _ (by simp -implicitDefEqProofs only [go_sem, reduceIte, Nat.reduceAdd, Nat.reduceSub, Nat.reduceMul, Nat.reduceLT, Nat.reduceLeDiff, Nat.reduceEqDiff, Nat.reduceBEq, Int.reduceLE, Int.reduceLT, Int.reduceToNat, Int.reduceMul, Int.reduceAdd, Int.reduceSub, Int.reduceNeg, Int.reduceEq, reduceCtorEq, Nat.reduceMod]) ?_ (by simp only; omega)
      simp only
      rw [← hG, Nat.pow_succ, half_even _ ho]
  · have h0 : n = 0 := by have := of_decide_eq_false h; omega
    subst h0
    simp -implicitDefEqProofs only [go_sem, reduceIte, Nat.reduceAdd, Nat.reduceSub, Nat.reduceMul, Nat.reduceLT, Nat.reduceLeDiff, Nat.reduceEqDiff, Nat.reduceBEq, Int.reduceLE, Int.reduceLT, Int.reduceToNat, Int.reduceMul, Int.reduceAdd, Int.reduceSub, Int.reduceNeg, Int.reduceEq, reduceCtorEq, Nat.reduceMod]
    rw [show d = m by simpa using hG]
    rfl
end Go.Proofs.Ytadnjellfiafaaa.Pm
