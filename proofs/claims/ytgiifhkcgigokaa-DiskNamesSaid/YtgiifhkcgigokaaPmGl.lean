/- disk's reference: scripts. No law of Go's is stated here. -/
import Derived.Test.YtgiifhkcgigokaaPmGk
set_option linter.all false
set_option maxRecDepth 100000
set_option maxHeartbeats 2000000
namespace Go.Proofs.Ytgiifhkcgigokaa.Pm
open Go Go.RowKit

def rrunF (d : Dev) (l : List DOp) (k : Nat) (e : Dev) (fl : Bool) : S := ⟨tmL [(1, .t (.sl (opsT l)) false), (4, .ptr 1 0), (7, .ptr 2 0), (8, .t (.i .i64 k) true)],
  [.var [.t (.sl (bT d.syn)) false, .t (.sl (bT d.tail)) false, .t (.i .i64 d.cap) false, .t (.b d.down) false], .var [.nl, .nl, .t (.i .i64 0) true, .t (.b false) true],
   .var [.t (.sl (bT e.syn)) fl, .t (.sl (bT e.tail)) fl, .t (.i .i64 e.cap) fl, .t (.b e.down) fl]]⟩
theorem s_ref01_TwinT (d : Dev) (hd : d.small) : Spec Try.prog 11 [.agg d.cells] [] (.agg [.t (.sl (bT d.syn)) true, .t (.sl (bT d.tail)) true, .t (.i .i64 d.cap) true, .t (.b d.down) true]) := (s_ref01_Twin d hd).tree (by simp -implicitDefEqProofs only [go_sem, reduceIte, Nat.reduceAdd, Nat.reduceSub, Nat.reduceMul, Nat.reduceLT, Nat.reduceLeDiff, Nat.reduceEqDiff, Nat.reduceBEq, Int.reduceLE, Int.reduceLT, Int.reduceToNat, Int.reduceMul, Int.reduceAdd, Int.reduceSub, Int.reduceNeg, Int.reduceEq, reduceCtorEq, Nat.reduceMod, bT_take_self])
theorem s_ref01_Run (d : Dev) (l : List DOp) (hd : d.small) (hl : ∀ o ∈ l, o.fine) (hn : l.length ≤ 140737488355328) : Spec Try.prog 36 [.agg d.cells, .sl (opsT l)] [] (resV ((run3 (d.run l)).map AV.ofT)) := by
  refine spec_k (hold mixed) b_ref01_Run (run3 (d.run l)) ?_
  simp -implicitDefEqProofs only [go_sem, reduceIte, Nat.reduceAdd, Nat.reduceSub, Nat.reduceMul, Nat.reduceLT, Nat.reduceLeDiff, Nat.reduceEqDiff, Nat.reduceBEq, Int.reduceLE, Int.reduceLT, Int.reduceToNat, Int.reduceMul, Int.reduceAdd, Int.reduceSub, Int.reduceNeg, Int.reduceEq, reduceCtorEq, Nat.reduceMod]
  refine call_k (s_ref01_Check d hd) ?_
  have hc : d.check = 8 ∨ d.check = 0 := by unfold Dev.check; split <;> simp
  rcases hc with hc | hc
  · have ev : d.run l = (zeroD, 0, 8) := by simp [Dev.run, hc]
    rw [ev]
    simp -implicitDefEqProofs only [go_sem, reduceIte, Nat.reduceAdd, Nat.reduceSub, Nat.reduceMul, Nat.reduceLT, Nat.reduceLeDiff, Nat.reduceEqDiff, Nat.reduceBEq, Int.reduceLE, Int.reduceLT, Int.reduceToNat, Int.reduceMul, Int.reduceAdd, Int.reduceSub, Int.reduceNeg, Int.reduceEq, reduceCtorEq, Nat.reduceMod, Int.reduceBNe, Int.reduceBEq, Int.reduceGT, Int.reduceGE, Int.reduceNe, Int.cast_ofNat_Int, Int.natCast_zero, Int.natCast_one, bne_self_eq_false, gt_iff_lt, ge_iff_le, Int.lt_irrefl, Int.le_refl, hc]
    refine call_k (s_ref01_Check d hd) ?_
    simp -implicitDefEqProofs only [go_sem, reduceIte, Nat.reduceAdd, Nat.reduceSub, Nat.reduceMul, Nat.reduceLT, Nat.reduceLeDiff, Nat.reduceEqDiff, Nat.reduceBEq, Int.reduceLE, Int.reduceLT, Int.reduceToNat, Int.reduceMul, Int.reduceAdd, Int.reduceSub, Int.reduceNeg, Int.reduceEq, reduceCtorEq, Nat.reduceMod, Int.reduceBNe, Int.reduceBEq, Int.reduceGT, Int.reduceGE, Int.reduceNe, Int.cast_ofNat_Int, Int.natCast_zero, Int.natCast_one, bne_self_eq_false, gt_iff_lt, ge_iff_le, Int.lt_irrefl, Int.le_refl, hc, zeroD, bT, List.map]
    try rfl
  have e1 : ((l.length : Int) > 200) = (200 < l.length) := propext (by omega)
  by_cases h2 : 200 < l.length
  · have ev : d.run l = (zeroD, 0, 4) := by simp [Dev.run, hc]; omega
    rw [ev]
    simp -implicitDefEqProofs only [go_sem, reduceIte, Nat.reduceAdd, Nat.reduceSub, Nat.reduceMul, Nat.reduceLT, Nat.reduceLeDiff, Nat.reduceEqDiff, Nat.reduceBEq, Int.reduceLE, Int.reduceLT, Int.reduceToNat, Int.reduceMul, Int.reduceAdd, Int.reduceSub, Int.reduceNeg, Int.reduceEq, reduceCtorEq, Nat.reduceMod, Int.reduceBNe, Int.reduceBEq, Int.reduceGT, Int.reduceGE, Int.reduceNe, Int.cast_ofNat_Int, Int.natCast_zero, Int.natCast_one, bne_self_eq_false, gt_iff_lt, ge_iff_le, Int.lt_irrefl, Int.le_refl, hc, opsT_length, e1, h2, zeroD, bT, List.map]
    try rfl
  have ev : d.run l = runL d (l.drop 0) 0 := by rw [List.drop_zero]; simp [Dev.run, hc]; omega
  rw [ev]
  simp -implicitDefEqProofs only [go_sem, reduceIte, Nat.reduceAdd, Nat.reduceSub, Nat.reduceMul, Nat.reduceLT, Nat.reduceLeDiff, Nat.reduceEqDiff, Nat.reduceBEq, Int.reduceLE, Int.reduceLT, Int.reduceToNat, Int.reduceMul, Int.reduceAdd, Int.reduceSub, Int.reduceNeg, Int.reduceEq, reduceCtorEq, Nat.reduceMod, Int.reduceBNe, Int.reduceBEq, Int.reduceGT, Int.reduceGE, Int.reduceNe, Int.cast_ofNat_Int, Int.natCast_zero, Int.natCast_one, bne_self_eq_false, gt_iff_lt, ge_iff_le, Int.lt_irrefl, Int.le_refl, hc, opsT_length, e1, h2]
  refine loop_l (α := Nat × Dev × Bool) (fun p => rrunF d l p.1 p.2.1 p.2.2) (fun p => l.length - p.1) (fun p => p.1 ≤ l.length ∧ p.2.1.small ∧ runL d (l.drop 0) 0 = runL p.2.1 (l.drop p.1) p.1) (0, d, false) (by simp -implicitDefEqProofs only [go_sem, reduceIte, Nat.reduceAdd, Nat.reduceSub, Nat.reduceMul, Nat.reduceLT, Nat.reduceLeDiff, Nat.reduceEqDiff, Nat.reduceBEq, Int.reduceLE, Int.reduceLT, Int.reduceToNat, Int.reduceMul, Int.reduceAdd, Int.reduceSub, Int.reduceNeg, Int.reduceEq, reduceCtorEq, Nat.reduceMod, opsT_length, rrunF]; rfl) ⟨Nat.zero_le _, hd, rfl⟩ ?_
  rintro ⟨k, e, fl⟩ ⟨hk, he, hr⟩ R hR
  replace hk : k ≤ l.length := hk
  replace he : e.small := he
  replace hr : runL d (l.drop 0) 0 = runL e (l.drop k) k := hr
  rw [hr] at hR ⊢
  simp -implicitDefEqProofs only [go_sem, reduceIte, Nat.reduceAdd, Nat.reduceSub, Nat.reduceMul, Nat.reduceLT, Nat.reduceLeDiff, Nat.reduceEqDiff, Nat.reduceBEq, Int.reduceLE, Int.reduceLT, Int.reduceToNat, Int.reduceMul, Int.reduceAdd, Int.reduceSub, Int.reduceNeg, Int.reduceEq, reduceCtorEq, Nat.reduceMod, rrunF, opsT_length]
  refine wcond_mk (fun h => ?_) (fun h => ?_)
  · have hk' : k < l.length := by have := of_decide_eq_true h; omega
    have hi : (k : Int) < l.length := by omega
    simp -implicitDefEqProofs only [go_sem, reduceIte, Nat.reduceAdd, Nat.reduceSub, Nat.reduceMul, Nat.reduceLT, Nat.reduceLeDiff, Nat.reduceEqDiff, Nat.reduceBEq, Int.reduceLE, Int.reduceLT, Int.reduceToNat, Int.reduceMul, Int.reduceAdd, Int.reduceSub, Int.reduceNeg, Int.reduceEq, reduceCtorEq, Nat.reduceMod, opsT_get hk', opsT_length, hi, DOp.cells]
    refine call_d (s_ref01_Step e l[k] he (hl _ (List.getElem_mem _))) ?_ (by simp -implicitDefEqProofs only [go_sem, reduceIte, Nat.reduceAdd, Nat.reduceSub, Nat.reduceMul, Nat.reduceLT, Nat.reduceLeDiff, Nat.reduceEqDiff, Nat.reduceBEq, Int.reduceLE, Int.reduceLT, Int.reduceToNat, Int.reduceMul, Int.reduceAdd, Int.reduceSub, Int.reduceNeg, Int.reduceEq, reduceCtorEq, Nat.reduceMod, DOp.cells])
    rw [runL_at hk'] at hR ⊢
    by_cases hz : (e.step l[k]).2 = 0
    · rw [if_pos hz] at hR ⊢
      simp -implicitDefEqProofs only [go_sem, reduceIte, Nat.reduceAdd, Nat.reduceSub, Nat.reduceMul, Nat.reduceLT, Nat.reduceLeDiff, Nat.reduceEqDiff, Nat.reduceBEq, Int.reduceLE, Int.reduceLT, Int.reduceToNat, Int.reduceMul, Int.reduceAdd, Int.reduceSub, Int.reduceNeg, Int.reduceEq, reduceCtorEq, Nat.reduceMod, Int.reduceBNe, Int.reduceBEq, Int.reduceGT, Int.reduceGE, Int.reduceNe, Int.cast_ofNat_Int, Int.natCast_zero, Int.natCast_one, bne_self_eq_false, gt_iff_lt, ge_iff_le, Int.lt_irrefl, Int.le_refl, hz]
      refine hR (k + 1, (e.step l[k]).1, true) _ ?_ ⟨hk', step_small e _, rfl⟩ (by show _ - (k + 1) < _ - k; omega)
      simp -implicitDefEqProofs only [go_sem, reduceIte, Nat.reduceAdd, Nat.reduceSub, Nat.reduceMul, Nat.reduceLT, Nat.reduceLeDiff, Nat.reduceEqDiff, Nat.reduceBEq, Int.reduceLE, Int.reduceLT, Int.reduceToNat, Int.reduceMul, Int.reduceAdd, Int.reduceSub, Int.reduceNeg, Int.reduceEq, reduceCtorEq, Nat.reduceMod, wrap_i64_id (show -9223372036854775808 ≤ (k : Int) + 1 by omega) (by omega), Int.natCast_add, rrunF]
      rfl
    · rw [if_neg hz]
      have hb : ((e.step l[k]).2 != 0) = true := by simpa using hz
      simp -implicitDefEqProofs only [go_sem, reduceIte, Nat.reduceAdd, Nat.reduceSub, Nat.reduceMul, Nat.reduceLT, Nat.reduceLeDiff, Nat.reduceEqDiff, Nat.reduceBEq, Int.reduceLE, Int.reduceLT, Int.reduceToNat, Int.reduceMul, Int.reduceAdd, Int.reduceSub, Int.reduceNeg, Int.reduceEq, reduceCtorEq, Nat.reduceMod, hb]
      refine call_k (s_ref01_TwinT e he) ?_
      simp -implicitDefEqProofs only [go_sem, reduceIte, Nat.reduceAdd, Nat.reduceSub, Nat.reduceMul, Nat.reduceLT, Nat.reduceLeDiff, Nat.reduceEqDiff, Nat.reduceBEq, Int.reduceLE, Int.reduceLT, Int.reduceToNat, Int.reduceMul, Int.reduceAdd, Int.reduceSub, Int.reduceNeg, Int.reduceEq, reduceCtorEq, Nat.reduceMod]
  · have hk' : ¬ k < l.length := by have := of_decide_eq_false h; omega
    obtain rfl : k = l.length := by omega
    have e2 : l.drop l.length = [] := List.drop_length
    rw [e2, runL]
    simp -implicitDefEqProofs only [go_sem, reduceIte, Nat.reduceAdd, Nat.reduceSub, Nat.reduceMul, Nat.reduceLT, Nat.reduceLeDiff, Nat.reduceEqDiff, Nat.reduceBEq, Int.reduceLE, Int.reduceLT, Int.reduceToNat, Int.reduceMul, Int.reduceAdd, Int.reduceSub, Int.reduceNeg, Int.reduceEq, reduceCtorEq, Nat.reduceMod, opsT_length]
    refine call_k (s_ref01_TwinT e he) ?_
    simp -implicitDefEqProofs only [go_sem, reduceIte, Nat.reduceAdd, Nat.reduceSub, Nat.reduceMul, Nat.reduceLT, Nat.reduceLeDiff, Nat.reduceEqDiff, Nat.reduceBEq, Int.reduceLE, Int.reduceLT, Int.reduceToNat, Int.reduceMul, Int.reduceAdd, Int.reduceSub, Int.reduceNeg, Int.reduceEq, reduceCtorEq, Nat.reduceMod, opsT_length]
end Go.Proofs.Ytgiifhkcgigokaa.Pm
