/- frame and its reference: numbers, lists of records. No law of Go's is stated here. -/
import Derived.Test.YtadnjellfiafaaaPmFb
set_option linter.all false
set_option maxRecDepth 100000
namespace Go.Proofs.Ytadnjellfiafaaa.Pm
open Go Go.RowKit

def numL (b0 b1 b2 b3 : BitVec 8) : Nat := b0.toNat + 256 * b1.toNat + 65536 * b2.toNat + 16777216 * b3.toNat
theorem s_ref03_number (b0 b1 b2 b3 : BitVec 8) (bs : List (BitVec 8)) (hl : bs.length ≤ 1000000) : Spec Try.prog 66 [.sl (bT (b0 :: b1 :: b2 :: b3 :: bs))] [] (.t (.i .i64 (numL b0 b1 b2 b3)) true) := by
  refine spec_k (hold mixed) b_ref03_number [(.i .i64 (numL b0 b1 b2 b3), true)] ?_
  simp -implicitDefEqProofs only [go_sem, reduceIte, Nat.reduceAdd, Nat.reduceSub, Nat.reduceMul, Nat.reduceLT, Nat.reduceLeDiff, Nat.reduceEqDiff, Nat.reduceBEq, Int.reduceLE, Int.reduceLT, Int.reduceToNat, Int.reduceMul, Int.reduceAdd, Int.reduceSub, Int.reduceNeg, Int.reduceEq, reduceCtorEq, Nat.reduceMod, bT_cons]
  have h0 := b0.isLt
  have h1 := b1.isLt
  have h2 := b2.isLt
  have h3 := b3.isLt
  congr 1
  unfold numL
  rw [wrap_i64_id (n := (b0.toNat : Int)) (by omega) (by omega), wrap_i64_id (n := (b1.toNat : Int)) (by omega) (by omega), wrap_i64_id (n := (b2.toNat : Int)) (by omega) (by omega), wrap_i64_id (n := (b3.toNat : Int)) (by omega) (by omega)]
  rw [wrap_i64_id (n := 256 * (b1.toNat : Int)) (by omega) (by omega), wrap_i64_id (n := 65536 * (b2.toNat : Int)) (by omega) (by omega), wrap_i64_id (n := 16777216 * (b3.toNat : Int)) (by omega) (by omega)]
  rw [wrap_i64_id (n := (b0.toNat : Int) + 256 * b1.toNat) (by omega) (by omega), wrap_i64_id (n := (b0.toNat : Int) + 256 * b1.toNat + 65536 * b2.toNat) (by omega) (by omega), wrap_i64_id (by omega) (by omega)]
  omega
def recsT (l : List Rec) : List (List T) := l.map Rec.cells
theorem recsT_length (l : List Rec) : (recsT l).length = l.length := by simp [recsT]
theorem recsT_get {l : List Rec} {k : Nat} (h : k < l.length) : (recsT l)[k]? = some l[k].cells := by simp [recsT, h]
theorem s_ref03_Great (l : List Rec) (hn : l.length ≤ 140737488355328) : Spec Try.prog 29 [.sl (recsT l)] [] (.t (.b (l.any (fun r => decide (1100 < r.data.length)) || decide (40 < l.length))) true) := by
  refine spec_k (hold mixed) b_ref03_Great [(.b (l.any (fun r => decide (1100 < r.data.length)) || decide (40 < l.length)), true)] ?_
  simp -implicitDefEqProofs only [go_sem, reduceIte, Nat.reduceAdd, Nat.reduceSub, Nat.reduceMul, Nat.reduceLT, Nat.reduceLeDiff, Nat.reduceEqDiff, Nat.reduceBEq, Int.reduceLE, Int.reduceLT, Int.reduceToNat, Int.reduceMul, Int.reduceAdd, Int.reduceSub, Int.reduceNeg, Int.reduceEq, reduceCtorEq, Nat.reduceMod, recsT_length]
  refine loop_l (α := Nat) (fun k => ⟨tmL [(0, .t (.sl (recsT l)) false), (3, .t (.i .i64 k) true)], []⟩) (fun k => l.length - k) (fun k => k ≤ l.length ∧ (l.take k).any (fun r => decide (1100 < r.data.length)) = false) 0 (by simp -implicitDefEqProofs only [go_sem, reduceIte, Nat.reduceAdd, Nat.reduceSub, Nat.reduceMul, Nat.reduceLT, Nat.reduceLeDiff, Nat.reduceEqDiff, Nat.reduceBEq, Int.reduceLE, Int.reduceLT, Int.reduceToNat, Int.reduceMul, Int.reduceAdd, Int.reduceSub, Int.reduceNeg, Int.reduceEq, reduceCtorEq, Nat.reduceMod]; rfl) ⟨by omega, rfl⟩ ?_
  rintro k ⟨hk, he⟩ R hR
  simp -implicitDefEqProofs only [go_sem, reduceIte, Nat.reduceAdd, Nat.reduceSub, Nat.reduceMul, Nat.reduceLT, Nat.reduceLeDiff, Nat.reduceEqDiff, Nat.reduceBEq, Int.reduceLE, Int.reduceLT, Int.reduceToNat, Int.reduceMul, Int.reduceAdd, Int.reduceSub, Int.reduceNeg, Int.reduceEq, reduceCtorEq, Nat.reduceMod, recsT_length]
  refine wcond_mk (fun h => ?_) (fun h => ?_)
  · have hk' : k < l.length := by have := of_decide_eq_true h; omega
    have hlt : (((k : Nat) : Int) < ((l.length : Nat) : Int)) = True := eq_true (by omega)
    simp -implicitDefEqProofs only [go_sem, reduceIte, Nat.reduceAdd, Nat.reduceSub, Nat.reduceMul, Nat.reduceLT, Nat.reduceLeDiff, Nat.reduceEqDiff, Nat.reduceBEq, Int.reduceLE, Int.reduceLT, Int.reduceToNat, Int.reduceMul, Int.reduceAdd, Int.reduceSub, Int.reduceNeg, Int.reduceEq, reduceCtorEq, Nat.reduceMod, recsT_get hk', Rec.cells, hlt, recsT_length]
    refine wcond_mk (fun h => ?_) (fun h => ?_)
    · have h1 : 1100 < l[k].data.length := by have := of_decide_eq_true h; omega
      have h2 : l.any (fun r => decide (1100 < r.data.length)) = true := List.any_eq_true.2 ⟨l[k], List.getElem_mem hk', decide_eq_true h1⟩
      simp -implicitDefEqProofs only [go_sem, reduceIte, Nat.reduceAdd, Nat.reduceSub, Nat.reduceMul, Nat.reduceLT, Nat.reduceLeDiff, Nat.reduceEqDiff, Nat.reduceBEq, Int.reduceLE, Int.reduceLT, Int.reduceToNat, Int.reduceMul, Int.reduceAdd, Int.reduceSub, Int.reduceNeg, Int.reduceEq, reduceCtorEq, Nat.reduceMod, h2]
    · have h1 : ¬ 1100 < l[k].data.length := by have := of_decide_eq_false h; omega
      simp -implicitDefEqProofs only [go_sem, reduceIte, Nat.reduceAdd, Nat.reduceSub, Nat.reduceMul, Nat.reduceLT, Nat.reduceLeDiff, Nat.reduceEqDiff, Nat.reduceBEq, Int.reduceLE, Int.reduceLT, Int.reduceToNat, Int.reduceMul, Int.reduceAdd, Int.reduceSub, Int.reduceNeg, Int.reduceEq, reduceCtorEq, Nat.reduceMod]
      refine hR (k + 1) _ ?_ ⟨by omega, ?_⟩ (by omega)
      · simp -implicitDefEqProofs only [go_sem, reduceIte, Nat.reduceAdd, Nat.reduceSub, Nat.reduceMul, Nat.reduceLT, Nat.reduceLeDiff, Nat.reduceEqDiff, Nat.reduceBEq, Int.reduceLE, Int.reduceLT, Int.reduceToNat, Int.reduceMul, Int.reduceAdd, Int.reduceSub, Int.reduceNeg, Int.reduceEq, reduceCtorEq, Nat.reduceMod, wrap_i64_id (show -9223372036854775808 ≤ (k : Int) + 1 by omega) (by omega), Int.natCast_add]
        rfl
      · rw [← List.take_append_getElem hk', List.any_append, he]
        simp [h1]
  · have hk' : ¬ k < l.length := by have := of_decide_eq_false h; omega
    obtain rfl : k = l.length := by omega
    rw [List.take_length] at he
    have e : ((l.length : Int) > 40) = (40 < l.length) := propext (by omega)
    simp -implicitDefEqProofs only [go_sem, reduceIte, Nat.reduceAdd, Nat.reduceSub, Nat.reduceMul, Nat.reduceLT, Nat.reduceLeDiff, Nat.reduceEqDiff, Nat.reduceBEq, Int.reduceLE, Int.reduceLT, Int.reduceToNat, Int.reduceMul, Int.reduceAdd, Int.reduceSub, Int.reduceNeg, Int.reduceEq, reduceCtorEq, Nat.reduceMod, he, recsT_length, e]

theorem s_ref03_Same (l m : List Rec) (hn : l.length ≤ 1000000) (hd : ∀ r ∈ l, r.data.length ≤ 1000000) (hd' : ∀ r ∈ m, r.data.length ≤ 1000000) : Spec Try.prog 26 [.sl (recsT l), .sl (recsT m)] [] (.t (.b (decide (l = m))) true) := by
  refine spec_k (hold mixed) b_ref03_Same [(.b (decide (l = m)), true)] ?_
  simp -implicitDefEqProofs only [go_sem, reduceIte, Nat.reduceAdd, Nat.reduceSub, Nat.reduceMul, Nat.reduceLT, Nat.reduceLeDiff, Nat.reduceEqDiff, Nat.reduceBEq, Int.reduceLE, Int.reduceLT, Int.reduceToNat, Int.reduceMul, Int.reduceAdd, Int.reduceSub, Int.reduceNeg, Int.reduceEq, reduceCtorEq, Nat.reduceMod, recsT_length]
  by_cases hl : l.length = m.length
  · simp -implicitDefEqProofs only [go_sem, reduceIte, Nat.reduceAdd, Nat.reduceSub, Nat.reduceMul, Nat.reduceLT, Nat.reduceLeDiff, Nat.reduceEqDiff, Nat.reduceBEq, Int.reduceLE, Int.reduceLT, Int.reduceToNat, Int.reduceMul, Int.reduceAdd, Int.reduceSub, Int.reduceNeg, Int.reduceEq, reduceCtorEq, Nat.reduceMod, hl, bne_self_eq_false]
    refine loop_l (α := Nat) (fun k => ⟨tmL [(0, .t (.sl (recsT l)) false), (1, .t (.sl (recsT m)) false), (5, .t (.i .i64 k) true)], []⟩) (fun k => l.length - k) (fun k => k ≤ l.length ∧ l.take k = m.take k) 0 (by simp -implicitDefEqProofs only [go_sem, reduceIte, Nat.reduceAdd, Nat.reduceSub, Nat.reduceMul, Nat.reduceLT, Nat.reduceLeDiff, Nat.reduceEqDiff, Nat.reduceBEq, Int.reduceLE, Int.reduceLT, Int.reduceToNat, Int.reduceMul, Int.reduceAdd, Int.reduceSub, Int.reduceNeg, Int.reduceEq, reduceCtorEq, Nat.reduceMod]; rfl) ⟨by omega, rfl⟩ ?_
    rintro k ⟨hk, he⟩ R hR
    simp -implicitDefEqProofs only [go_sem, reduceIte, Nat.reduceAdd, Nat.reduceSub, Nat.reduceMul, Nat.reduceLT, Nat.reduceLeDiff, Nat.reduceEqDiff, Nat.reduceBEq, Int.reduceLE, Int.reduceLT, Int.reduceToNat, Int.reduceMul, Int.reduceAdd, Int.reduceSub, Int.reduceNeg, Int.reduceEq, reduceCtorEq, Nat.reduceMod, recsT_length]
    refine wcond_mk (fun h => ?_) (fun h => ?_)
    · have hk' : k < l.length := by have := of_decide_eq_true h; omega
      have hk2 : k < m.length := by omega
      have hlt : (((k : Nat) : Int) < ((m.length : Nat) : Int)) = True := eq_true (by omega)
      have hlt2 : (((k : Nat) : Int) < ((l.length : Nat) : Int)) = True := eq_true (by omega)
      by_cases h1 : l[k].num = m[k].num
      · simp -implicitDefEqProofs only [go_sem, reduceIte, Nat.reduceAdd, Nat.reduceSub, Nat.reduceMul, Nat.reduceLT, Nat.reduceLeDiff, Nat.reduceEqDiff, Nat.reduceBEq, Int.reduceLE, Int.reduceLT, Int.reduceToNat, Int.reduceMul, Int.reduceAdd, Int.reduceSub, Int.reduceNeg, Int.reduceEq, reduceCtorEq, Nat.reduceMod, recsT_get hk', recsT_get hk2, hlt, hlt2, recsT_length, Rec.cells, h1, bne_self_eq_false]
        refine call_d (s_ref01_SameBytes l[k].data m[k].data (hd _ (List.getElem_mem hk')) (hd' _ (List.getElem_mem hk2))) ?_
        by_cases h4 : l[k].data = m[k].data
        · have h5 : (l[k].data == m[k].data) = true := by rw [beq_iff_eq]; exact h4
          simp -implicitDefEqProofs only [go_sem, reduceIte, Nat.reduceAdd, Nat.reduceSub, Nat.reduceMul, Nat.reduceLT, Nat.reduceLeDiff, Nat.reduceEqDiff, Nat.reduceBEq, Int.reduceLE, Int.reduceLT, Int.reduceToNat, Int.reduceMul, Int.reduceAdd, Int.reduceSub, Int.reduceNeg, Int.reduceEq, reduceCtorEq, Nat.reduceMod, h5]
          refine hR (k + 1) _ ?_ ⟨by omega, ?_⟩ (by omega)
          · simp -implicitDefEqProofs only [go_sem, reduceIte, Nat.reduceAdd, Nat.reduceSub, Nat.reduceMul, Nat.reduceLT, Nat.reduceLeDiff, Nat.reduceEqDiff, Nat.reduceBEq, Int.reduceLE, Int.reduceLT, Int.reduceToNat, Int.reduceMul, Int.reduceAdd, Int.reduceSub, Int.reduceNeg, Int.reduceEq, reduceCtorEq, Nat.reduceMod, wrap_i64_id (show -9223372036854775808 ≤ (k : Int) + 1 by omega) (by omega), Int.natCast_add]
            rfl
          · have e : l[k] = m[k] := by
              cases hx : l[k]; cases hy : m[k]
              rw [hx, hy] at h1 h4
              simp only at h1 h4
              rw [h1, h4]
            rw [← List.take_append_getElem hk', ← List.take_append_getElem hk2, he, e]
        · have h5 : (l[k].data == m[k].data) = false := by rw [beq_eq_false_iff_ne]; exact h4
          have h3 : decide (l = m) = false := decide_eq_false fun e => h4 (by subst e; rfl)
          simp -implicitDefEqProofs only [go_sem, reduceIte, Nat.reduceAdd, Nat.reduceSub, Nat.reduceMul, Nat.reduceLT, Nat.reduceLeDiff, Nat.reduceEqDiff, Nat.reduceBEq, Int.reduceLE, Int.reduceLT, Int.reduceToNat, Int.reduceMul, Int.reduceAdd, Int.reduceSub, Int.reduceNeg, Int.reduceEq, reduceCtorEq, Nat.reduceMod, h5, h3]
      · have h2 : (l[k].num != m[k].num) = true := by rw [bne_iff_ne]; exact h1
        have h3 : decide (l = m) = false := decide_eq_false fun e => h1 (by subst e; rfl)
        simp -implicitDefEqProofs only [go_sem, reduceIte, Nat.reduceAdd, Nat.reduceSub, Nat.reduceMul, Nat.reduceLT, Nat.reduceLeDiff, Nat.reduceEqDiff, Nat.reduceBEq, Int.reduceLE, Int.reduceLT, Int.reduceToNat, Int.reduceMul, Int.reduceAdd, Int.reduceSub, Int.reduceNeg, Int.reduceEq, reduceCtorEq, Nat.reduceMod, recsT_get hk', recsT_get hk2, hlt, hlt2, recsT_length, Rec.cells, h2, h3]
    · have hk' : ¬ k < l.length := by have := of_decide_eq_false h; omega
      obtain rfl : k = l.length := by omega
      have h3 : decide (l = m) = true := decide_eq_true (by rw [List.take_length] at he; rw [he, hl, List.take_length])
      simp -implicitDefEqProofs only [go_sem, reduceIte, Nat.reduceAdd, Nat.reduceSub, Nat.reduceMul, Nat.reduceLT, Nat.reduceLeDiff, Nat.reduceEqDiff, Nat.reduceBEq, Int.reduceLE, Int.reduceLT, Int.reduceToNat, Int.reduceMul, Int.reduceAdd, Int.reduceSub, Int.reduceNeg, Int.reduceEq, reduceCtorEq, Nat.reduceMod, h3]
  · have h1 : ((((l.length : Nat) : Int) != ((m.length : Nat) : Int))) = true := by rw [bne_iff_ne]; omega
    have h3 : decide (l = m) = false := decide_eq_false fun e => hl (by rw [e])
    simp -implicitDefEqProofs only [go_sem, reduceIte, Nat.reduceAdd, Nat.reduceSub, Nat.reduceMul, Nat.reduceLT, Nat.reduceLeDiff, Nat.reduceEqDiff, Nat.reduceBEq, Int.reduceLE, Int.reduceLT, Int.reduceToNat, Int.reduceMul, Int.reduceAdd, Int.reduceSub, Int.reduceNeg, Int.reduceEq, reduceCtorEq, Nat.reduceMod, h1, h3]
end Go.Proofs.Ytadnjellfiafaaa.Pm
