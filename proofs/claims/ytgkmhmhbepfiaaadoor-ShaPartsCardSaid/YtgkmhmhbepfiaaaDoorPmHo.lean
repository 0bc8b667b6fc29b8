/- ShaParts. -/
import Derived.Test.YtgkmhmhbepfiaaaDoorPmHn
set_option linter.all false
set_option maxRecDepth 100000
set_option maxHeartbeats 2000000
namespace Go.Proofs.YtgkmhmhbepfiaaaDoor.Pm
open Go Go.RowKit

theorem HV.start_ok : HV.start.ok = true := by decide
theorem HV.put_ok {h : HV} (hk : h.ok = true) {b : List (BitVec 8)} (hb : (b.length : Int) ≤ 1000000 - h.n) : (h.put b).ok = true := by
  obtain ⟨h0, h1, h2⟩ := h.ok_iff.1 hk
  rw [HV.ok_iff]
  simp only [HV.put]
  rw [Int.tmod_eq_emod_of_nonneg h0] at h2
  rw [Int.tmod_eq_emod_of_nonneg (by omega), restV_len, List.length_append]
  omega
theorem HV.write_put {h : HV} (hk : h.ok = true) {b : List (BitVec 8)} (hb : (b.length : Int) ≤ 1000000 - h.n) : h.write b = h.put b ∧ h.writeE b = 0 := by
  unfold HV.write HV.writeE
  rw [if_pos hk, if_pos hb, if_pos hk, if_pos hb]
  exact ⟨rfl, rfl⟩
theorem s_Write' (h : HV) (b : List (BitVec 8)) (hk : h.ok = true) (hb : (b.length : Int) ≤ 1000000 - h.n) : Spec Tryd.prog 23 [.agg h.cells, .sl (bT b)] [] (.tup [.t (.agg (h.put b).cells) true, .t (.i .i64 0) true]) := by
  have := s_sha_Write h b
  obtain ⟨e1, e2⟩ := HV.write_put hk hb
  rw [e1, e2] at this
  exact this
theorem s_Finish' (h : HV) (hk : h.ok = true) : Spec Tryd.prog 24 [.agg h.cells] [] (.tup [.t (.agg (bN h.fin)) true, .t (.i .i64 0) true]) := by
  have := s_sha_Finish h
  rw [show h.finish = h.fin from if_pos hk, show h.finishE = 0 from if_pos hk] at this
  exact this
theorem s_Sum' (b : List (BitVec 8)) (hb : b.length ≤ 1000000) : Spec Tryd.prog 14 [.sl (bT b)] [] (.tup [.t (.agg (bN (ofV b))) true, .t (.i .i64 0) true]) := by
  have := s_sha_Sum b
  rw [show sumV b = ofV b from if_pos hb, show sumE b = 0 from if_pos hb] at this
  exact this
theorem s_law08_ShaParts (a b c : List (BitVec 8)) : Spec Tryd.prog 5 [.sl (bT a), .sl (bT b), .sl (bT c)] [] (.t (.b true) true) := by
  refine spec_k (hold mixed) b_law08_ShaParts [(.b true, true)] ?_
  by_cases ha : a.length ≤ 1000
  · have ha' : ((1000 : Int) < (a.length : Int)) = False := eq_false (by omega)
    by_cases hb : b.length ≤ 1000
    · have hb' : ((1000 : Int) < (b.length : Int)) = False := eq_false (by omega)
      by_cases hc : c.length ≤ 1000
      · have hc' : ((1000 : Int) < (c.length : Int)) = False := eq_false (by omega)
        have k1 : (HV.start.put a).ok = true := HV.put_ok HV.start_ok (by show (a.length : Int) ≤ 1000000 - 0; omega)
        have n1 : (HV.start.put a).n = (a.length : Int) := by show (0 : Int) + (a.length : Int) = _; omega
        have W1 := s_Write' HV.start a HV.start_ok (by show (a.length : Int) ≤ 1000000 - 0; omega)
        have W2 := s_Write' (HV.start.put a) b k1 (by rw [n1]; omega)
        have k2 : ((HV.start.put a).put b).ok = true := HV.put_ok k1 (by rw [n1]; omega)
        have n2 : ((HV.start.put a).put b).n = (a.length : Int) + (b.length : Int) := by show (HV.start.put a).n + (b.length : Int) = _; rw [n1]
        have W3 := s_Write' ((HV.start.put a).put b) c k2 (by rw [n2]; omega)
        have k3 : (((HV.start.put a).put b).put c).ok = true := HV.put_ok k2 (by rw [n2]; omega)
        have e3 : ((HV.start.put a).put b).put c = HV.start.put (a ++ b ++ c) := by rw [put_put, put_put, List.append_assoc]
        rw [e3] at W3 k3
        have F := s_Finish' _ k3
        rw [ofV_fin] at F
        have hl : (a ++ b ++ c).length = a.length + b.length + c.length := by rw [List.length_append, List.length_append]
        have hu := s_Sum' (a ++ b ++ c) (by omega)
        have W4 := s_Write' HV.start (a ++ b ++ c) HV.start_ok (by show ((a ++ b ++ c).length : Int) ≤ 1000000 - 0; omega)
        have n4 : (HV.start.put (a ++ b ++ c)).n = ((a ++ b ++ c).length : Int) := by show (0 : Int) + ((a ++ b ++ c).length : Int) = _; omega
        have r4 : (HV.start.put (a ++ b ++ c)).r.length ≤ 1000000 := by have := HV.ok_len k3; omega
        have S4 := s_ref08_Same _ _ r4 r4
        simp -implicitDefEqProofs only [go_sem, reduceIte, Nat.reduceAdd, Nat.reduceSub, Nat.reduceMul, Nat.reduceLT, Nat.reduceLeDiff, Nat.reduceEqDiff, Nat.reduceBEq, Int.reduceLE, Int.reduceLT, Int.reduceToNat, Int.reduceMul, Int.reduceAdd, Int.reduceSub, Int.reduceNeg, Int.reduceEq, reduceCtorEq, Nat.reduceMod, Int.reduceBNe, Int.reduceBEq, Int.reduceGT, Int.reduceGE, Int.reduceNe, Int.cast_ofNat_Int, Int.natCast_zero, Int.natCast_one, bne_self_eq_false, gt_iff_lt, ge_iff_le, Int.lt_irrefl, Int.le_refl, ha', hb', hc']
        first | refine call_k s_start ?_ | refine call_d s_start ?_
        simp -implicitDefEqProofs only [go_sem, reduceIte, Nat.reduceAdd, Nat.reduceSub, Nat.reduceMul, Nat.reduceLT, Nat.reduceLeDiff, Nat.reduceEqDiff, Nat.reduceBEq, Int.reduceLE, Int.reduceLT, Int.reduceToNat, Int.reduceMul, Int.reduceAdd, Int.reduceSub, Int.reduceNeg, Int.reduceEq, reduceCtorEq, Nat.reduceMod, Int.reduceBNe, Int.reduceBEq, Int.reduceGT, Int.reduceGE, Int.reduceNe, Int.cast_ofNat_Int, Int.natCast_zero, Int.natCast_one, bne_self_eq_false, gt_iff_lt, ge_iff_le, Int.lt_irrefl, Int.le_refl]
        first | refine call_k W1 ?_ | refine call_d W1 ?_
        generalize HV.start.put a = A at *
        simp -implicitDefEqProofs only [go_sem, reduceIte, Nat.reduceAdd, Nat.reduceSub, Nat.reduceMul, Nat.reduceLT, Nat.reduceLeDiff, Nat.reduceEqDiff, Nat.reduceBEq, Int.reduceLE, Int.reduceLT, Int.reduceToNat, Int.reduceMul, Int.reduceAdd, Int.reduceSub, Int.reduceNeg, Int.reduceEq, reduceCtorEq, Nat.reduceMod, Int.reduceBNe, Int.reduceBEq, Int.reduceGT, Int.reduceGE, Int.reduceNe, Int.cast_ofNat_Int, Int.natCast_zero, Int.natCast_one, bne_self_eq_false, gt_iff_lt, ge_iff_le, Int.lt_irrefl, Int.le_refl]
        first | refine call_k W2 ?_ | refine call_d W2 ?_
        generalize A.put b = B at *
        simp -implicitDefEqProofs only [go_sem, reduceIte, Nat.reduceAdd, Nat.reduceSub, Nat.reduceMul, Nat.reduceLT, Nat.reduceLeDiff, Nat.reduceEqDiff, Nat.reduceBEq, Int.reduceLE, Int.reduceLT, Int.reduceToNat, Int.reduceMul, Int.reduceAdd, Int.reduceSub, Int.reduceNeg, Int.reduceEq, reduceCtorEq, Nat.reduceMod, Int.reduceBNe, Int.reduceBEq, Int.reduceGT, Int.reduceGE, Int.reduceNe, Int.cast_ofNat_Int, Int.natCast_zero, Int.natCast_one, bne_self_eq_false, gt_iff_lt, ge_iff_le, Int.lt_irrefl, Int.le_refl]
        first | refine call_k W3 ?_ | refine call_d W3 ?_
        simp -implicitDefEqProofs only [go_sem, reduceIte, Nat.reduceAdd, Nat.reduceSub, Nat.reduceMul, Nat.reduceLT, Nat.reduceLeDiff, Nat.reduceEqDiff, Nat.reduceBEq, Int.reduceLE, Int.reduceLT, Int.reduceToNat, Int.reduceMul, Int.reduceAdd, Int.reduceSub, Int.reduceNeg, Int.reduceEq, reduceCtorEq, Nat.reduceMod, Int.reduceBNe, Int.reduceBEq, Int.reduceGT, Int.reduceGE, Int.reduceNe, Int.cast_ofNat_Int, Int.natCast_zero, Int.natCast_one, bne_self_eq_false, gt_iff_lt, ge_iff_le, Int.lt_irrefl, Int.le_refl]
        first | refine call_k F ?_ | refine call_d F ?_
        have hd := ofV_len (a ++ b ++ c)
        have ta : List.take a.length (bT a) = bT a := List.take_of_length_le (by rw [bT_length]; exact Nat.le_refl _)
        have tab : List.take (a.length + b.length) (bT a ++ bT b) = bT a ++ bT b := List.take_of_length_le (by rw [List.length_append, bT_length, bT_length]; exact Nat.le_refl _)
        have tabc : List.take (a.length + b.length + c.length) (bT a ++ bT b ++ bT c) = bT (a ++ b ++ c) := by
          rw [bT_append, bT_append]
          exact List.take_of_length_le (by rw [List.length_append, List.length_append, bT_length, bT_length, bT_length]; exact Nat.le_refl _)
        have labc : (a.length + b.length + c.length ≤ (bT a ++ bT b ++ bT c).length) = True := eq_true (by rw [List.length_append, List.length_append, bT_length, bT_length, bT_length]; exact Nat.le_refl _)
        have lab : (a.length + b.length ≤ (bT a ++ bT b).length) = True := eq_true (by rw [List.length_append, bT_length, bT_length]; exact Nat.le_refl _)
        simp -implicitDefEqProofs only [go_sem, reduceIte, Nat.reduceAdd, Nat.reduceSub, Nat.reduceMul, Nat.reduceLT, Nat.reduceLeDiff, Nat.reduceEqDiff, Nat.reduceBEq, Int.reduceLE, Int.reduceLT, Int.reduceToNat, Int.reduceMul, Int.reduceAdd, Int.reduceSub, Int.reduceNeg, Int.reduceEq, reduceCtorEq, Nat.reduceMod, Int.reduceBNe, Int.reduceBEq, Int.reduceGT, Int.reduceGE, Int.reduceNe, Int.cast_ofNat_Int, Int.natCast_zero, Int.natCast_one, bne_self_eq_false, gt_iff_lt, ge_iff_le, Int.lt_irrefl, Int.le_refl, bN_map, hd, bC_take hd, ta, tab, lab]
        refine ⟨bC_one _, ⟨okEs_bT _, by unfold room; omega⟩, ⟨okEs_bT _, by unfold room; omega⟩, ⟨okEs_bT _, by unfold room; omega⟩, ?_⟩
        refine call_k hu ?_ (by simp -implicitDefEqProofs only [go_sem, reduceIte, Nat.reduceAdd, Nat.reduceSub, Nat.reduceMul, Nat.reduceLT, Nat.reduceLeDiff, Nat.reduceEqDiff, Nat.reduceBEq, Int.reduceLE, Int.reduceLT, Int.reduceToNat, Int.reduceMul, Int.reduceAdd, Int.reduceSub, Int.reduceNeg, Int.reduceEq, reduceCtorEq, Nat.reduceMod, Int.reduceBNe, Int.reduceBEq, Int.reduceGT, Int.reduceGE, Int.reduceNe, Int.cast_ofNat_Int, Int.natCast_zero, Int.natCast_one, bne_self_eq_false, gt_iff_lt, ge_iff_le, Int.lt_irrefl, Int.le_refl, labc, tabc])
        simp -implicitDefEqProofs only [go_sem, reduceIte, Nat.reduceAdd, Nat.reduceSub, Nat.reduceMul, Nat.reduceLT, Nat.reduceLeDiff, Nat.reduceEqDiff, Nat.reduceBEq, Int.reduceLE, Int.reduceLT, Int.reduceToNat, Int.reduceMul, Int.reduceAdd, Int.reduceSub, Int.reduceNeg, Int.reduceEq, reduceCtorEq, Nat.reduceMod, Int.reduceBNe, Int.reduceBEq, Int.reduceGT, Int.reduceGE, Int.reduceNe, Int.cast_ofNat_Int, Int.natCast_zero, Int.natCast_one, bne_self_eq_false, gt_iff_lt, ge_iff_le, Int.lt_irrefl, Int.le_refl, bN_map, hd, bC_take hd]
        refine ⟨bC_one _, ?_⟩
        first | refine call_k s_start ?_ | refine call_d s_start ?_
        simp -implicitDefEqProofs only [go_sem, reduceIte, Nat.reduceAdd, Nat.reduceSub, Nat.reduceMul, Nat.reduceLT, Nat.reduceLeDiff, Nat.reduceEqDiff, Nat.reduceBEq, Int.reduceLE, Int.reduceLT, Int.reduceToNat, Int.reduceMul, Int.reduceAdd, Int.reduceSub, Int.reduceNeg, Int.reduceEq, reduceCtorEq, Nat.reduceMod, Int.reduceBNe, Int.reduceBEq, Int.reduceGT, Int.reduceGE, Int.reduceNe, Int.cast_ofNat_Int, Int.natCast_zero, Int.natCast_one, bne_self_eq_false, gt_iff_lt, ge_iff_le, Int.lt_irrefl, Int.le_refl]
        refine call_k W4 ?_ (by simp -implicitDefEqProofs only [go_sem, reduceIte, Nat.reduceAdd, Nat.reduceSub, Nat.reduceMul, Nat.reduceLT, Nat.reduceLeDiff, Nat.reduceEqDiff, Nat.reduceBEq, Int.reduceLE, Int.reduceLT, Int.reduceToNat, Int.reduceMul, Int.reduceAdd, Int.reduceSub, Int.reduceNeg, Int.reduceEq, reduceCtorEq, Nat.reduceMod, Int.reduceBNe, Int.reduceBEq, Int.reduceGT, Int.reduceGE, Int.reduceNe, Int.cast_ofNat_Int, Int.natCast_zero, Int.natCast_one, bne_self_eq_false, gt_iff_lt, ge_iff_le, Int.lt_irrefl, Int.le_refl, labc, tabc])
        have hsame : sameV (HV.start.put (a ++ b ++ c)) (HV.start.put (a ++ b ++ c)) = true := by simp [sameV]
        rw [hsame] at S4
        rw [hl] at n4
        generalize HV.start.put (a ++ b ++ c) = C at *
        simp -implicitDefEqProofs only [go_sem, reduceIte, Nat.reduceAdd, Nat.reduceSub, Nat.reduceMul, Nat.reduceLT, Nat.reduceLeDiff, Nat.reduceEqDiff, Nat.reduceBEq, Int.reduceLE, Int.reduceLT, Int.reduceToNat, Int.reduceMul, Int.reduceAdd, Int.reduceSub, Int.reduceNeg, Int.reduceEq, reduceCtorEq, Nat.reduceMod, Int.reduceBNe, Int.reduceBEq, Int.reduceGT, Int.reduceGE, Int.reduceNe, Int.cast_ofNat_Int, Int.natCast_zero, Int.natCast_one, bne_self_eq_false, gt_iff_lt, ge_iff_le, Int.lt_irrefl, Int.le_refl, bN_map, hd, bC_take hd, plains_bC, eqCells_bN _ _ rfl]
        refine ⟨⟨by rw [bN_len, hd], bN_isI _⟩, ?_⟩
        first | refine call_k S4 ?_ | refine call_d S4 ?_
        simp -implicitDefEqProofs only [go_sem, reduceIte, Nat.reduceAdd, Nat.reduceSub, Nat.reduceMul, Nat.reduceLT, Nat.reduceLeDiff, Nat.reduceEqDiff, Nat.reduceBEq, Int.reduceLE, Int.reduceLT, Int.reduceToNat, Int.reduceMul, Int.reduceAdd, Int.reduceSub, Int.reduceNeg, Int.reduceEq, reduceCtorEq, Nat.reduceMod, Int.reduceBNe, Int.reduceBEq, Int.reduceGT, Int.reduceGE, Int.reduceNe, Int.cast_ofNat_Int, Int.natCast_zero, Int.natCast_one, bne_self_eq_false, gt_iff_lt, ge_iff_le, Int.lt_irrefl, Int.le_refl, n4]
        first | refine call_k s_alive ?_ | refine call_d s_alive ?_
        simp -implicitDefEqProofs only [go_sem, reduceIte, Nat.reduceAdd, Nat.reduceSub, Nat.reduceMul, Nat.reduceLT, Nat.reduceLeDiff, Nat.reduceEqDiff, Nat.reduceBEq, Int.reduceLE, Int.reduceLT, Int.reduceToNat, Int.reduceMul, Int.reduceAdd, Int.reduceSub, Int.reduceNeg, Int.reduceEq, reduceCtorEq, Nat.reduceMod, Int.reduceBNe, Int.reduceBEq, Int.reduceGT, Int.reduceGE, Int.reduceNe, Int.cast_ofNat_Int, Int.natCast_zero, Int.natCast_one, bne_self_eq_false, gt_iff_lt, ge_iff_le, Int.lt_irrefl, Int.le_refl]
      · have hc' : ((1000 : Int) < (c.length : Int)) = True := eq_true (by omega)
        simp -implicitDefEqProofs only [go_sem, reduceIte, Nat.reduceAdd, Nat.reduceSub, Nat.reduceMul, Nat.reduceLT, Nat.reduceLeDiff, Nat.reduceEqDiff, Nat.reduceBEq, Int.reduceLE, Int.reduceLT, Int.reduceToNat, Int.reduceMul, Int.reduceAdd, Int.reduceSub, Int.reduceNeg, Int.reduceEq, reduceCtorEq, Nat.reduceMod, Int.reduceBNe, Int.reduceBEq, Int.reduceGT, Int.reduceGE, Int.reduceNe, Int.cast_ofNat_Int, Int.natCast_zero, Int.natCast_one, bne_self_eq_false, gt_iff_lt, ge_iff_le, Int.lt_irrefl, Int.le_refl, ha', hb', hc']
        first | refine call_k s_alive ?_ | refine call_d s_alive ?_
        simp -implicitDefEqProofs only [go_sem, reduceIte, Nat.reduceAdd, Nat.reduceSub, Nat.reduceMul, Nat.reduceLT, Nat.reduceLeDiff, Nat.reduceEqDiff, Nat.reduceBEq, Int.reduceLE, Int.reduceLT, Int.reduceToNat, Int.reduceMul, Int.reduceAdd, Int.reduceSub, Int.reduceNeg, Int.reduceEq, reduceCtorEq, Nat.reduceMod, Int.reduceBNe, Int.reduceBEq, Int.reduceGT, Int.reduceGE, Int.reduceNe, Int.cast_ofNat_Int, Int.natCast_zero, Int.natCast_one, bne_self_eq_false, gt_iff_lt, ge_iff_le, Int.lt_irrefl, Int.le_refl]
    · have hb' : ((1000 : Int) < (b.length : Int)) = True := eq_true (by omega)
      simp -implicitDefEqProofs only [go_sem, reduceIte, Nat.reduceAdd, Nat.reduceSub, Nat.reduceMul, Nat.reduceLT, Nat.reduceLeDiff, Nat.reduceEqDiff, Nat.reduceBEq, Int.reduceLE, Int.reduceLT, Int.reduceToNat, Int.reduceMul, Int.reduceAdd, Int.reduceSub, Int.reduceNeg, Int.reduceEq, reduceCtorEq, Nat.reduceMod, Int.reduceBNe, Int.reduceBEq, Int.reduceGT, Int.reduceGE, Int.reduceNe, Int.cast_ofNat_Int, Int.natCast_zero, Int.natCast_one, bne_self_eq_false, gt_iff_lt, ge_iff_le, Int.lt_irrefl, Int.le_refl, ha', hb']
      first | refine call_k s_alive ?_ | refine call_d s_alive ?_
      simp -implicitDefEqProofs only [go_sem, reduceIte, Nat.reduceAdd, Nat.reduceSub, Nat.reduceMul, Nat.reduceLT, Nat.reduceLeDiff, Nat.reduceEqDiff, Nat.reduceBEq, Int.reduceLE, Int.reduceLT, Int.reduceToNat, Int.reduceMul, Int.reduceAdd, Int.reduceSub, Int.reduceNeg, Int.reduceEq, reduceCtorEq, Nat.reduceMod, Int.reduceBNe, Int.reduceBEq, Int.reduceGT, Int.reduceGE, Int.reduceNe, Int.cast_ofNat_Int, Int.natCast_zero, Int.natCast_one, bne_self_eq_false, gt_iff_lt, ge_iff_le, Int.lt_irrefl, Int.le_refl]
  · have ha' : ((1000 : Int) < (a.length : Int)) = True := eq_true (by omega)
    simp -implicitDefEqProofs only [go_sem, reduceIte, Nat.reduceAdd, Nat.reduceSub, Nat.reduceMul, Nat.reduceLT, Nat.reduceLeDiff, Nat.reduceEqDiff, Nat.reduceBEq, Int.reduceLE, Int.reduceLT, Int.reduceToNat, Int.reduceMul, Int.reduceAdd, Int.reduceSub, Int.reduceNeg, Int.reduceEq, reduceCtorEq, Nat.reduceMod, Int.reduceBNe, Int.reduceBEq, Int.reduceGT, Int.reduceGE, Int.reduceNe, Int.cast_ofNat_Int, Int.natCast_zero, Int.natCast_one, bne_self_eq_false, gt_iff_lt, ge_iff_le, Int.lt_irrefl, Int.le_refl, ha']
    first | refine call_k s_alive ?_ | refine call_d s_alive ?_
    simp -implicitDefEqProofs only [go_sem, reduceIte, Nat.reduceAdd, Nat.reduceSub, Nat.reduceMul, Nat.reduceLT, Nat.reduceLeDiff, Nat.reduceEqDiff, Nat.reduceBEq, Int.reduceLE, Int.reduceLT, Int.reduceToNat, Int.reduceMul, Int.reduceAdd, Int.reduceSub, Int.reduceNeg, Int.reduceEq, reduceCtorEq, Nat.reduceMod, Int.reduceBNe, Int.reduceBEq, Int.reduceGT, Int.reduceGE, Int.reduceNe, Int.cast_ofNat_Int, Int.natCast_zero, Int.natCast_one, bne_self_eq_false, gt_iff_lt, ge_iff_le, Int.lt_irrefl, Int.le_refl]
end Go.Proofs.YtgkmhmhbepfiaaaDoor.Pm
