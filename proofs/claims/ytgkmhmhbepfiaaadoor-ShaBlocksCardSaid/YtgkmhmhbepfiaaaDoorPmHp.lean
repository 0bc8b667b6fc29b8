/- ShaBlocks. -/
import Derived.Test.YtgkmhmhbepfiaaaDoorPmHo
set_option linter.all false
set_option maxRecDepth 100000
set_option maxHeartbeats 2000000
namespace Go.Proofs.YtgkmhmhbepfiaaaDoor.Pm
open Go Go.RowKit

theorem s_Pad' (n : Nat) (hn : n ≤ 1000000) : Spec Tryd.prog 16 [.i .i64 n] [] (.tup [.t (.sl (bT (padL n))) true, .t (.i .i64 0) true]) := by
  have h := s_sha_Pad n
  rw [show padR (n : Int) = padL n from if_pos ⟨by omega, by omega⟩, show padE (n : Int) = 0 from if_pos ⟨by omega, by omega⟩] at h
  exact h
theorem padL_0 (n : Nat) : (bT (padL n))[0]? = some [.i .u8 128] := by
  simp [padL, padH, bT]
theorem s_Block' (w : H8) (b : List (BitVec 8)) (hb : b.length = 64) : Spec Tryd.prog 18 [.agg w.cells, .sl (bT b)] [] (.tup [.t (.agg (takenV w b).cells) true, .t (.i .i64 0) true]) := by
  have h := s_sha_Block w b
  rw [show blockV w b = takenV w b from if_pos hb, show blockE b = 0 from if_pos hb] at h
  exact h
def allB (b : List (BitVec 8)) : List (BitVec 8) := b ++ padL b.length
theorem allB_len (b : List (BitVec 8)) : (allB b).length = b.length + (padL b.length).length := by simp [allB]
def bkA (b : List (BitVec 8)) (k : Nat) : S := ⟨tmL [(0, .t (.sl (bT b)) false), (3, .t (.sl (bT (padL b.length))) true), (5, .row 0 2 0 (b.length + (padL b.length).length)), (6, .ptr 1 0), (7, .t (.i .i64 (64 * k : Nat)) true)],
  [.row 2 1 (bT b ++ bT (padL b.length)) true, hB (absV H8.first (allB b) k) true]⟩
def bitV (n j : Nat) : Int := ((8 * n / 2 ^ (64 - 8 * j) : Nat) : Int)
theorem bitV_0 {n : Nat} (hn : n ≤ 1000) : bitV n 0 = 0 := by
  show ((8 * n / 2 ^ 64 : Nat) : Int) = 0
  rw [Nat.div_eq_of_lt (by omega)]
  rfl
theorem bitV_8 (n : Nat) : bitV n 8 = 8 * (n : Int) := by
  show ((8 * n / 2 ^ 0 : Nat) : Int) = _
  rw [Nat.pow_zero, Nat.div_one]
  omega
theorem bitV_le {n : Nat} (hn : n ≤ 1000) (j : Nat) : 0 ≤ bitV n j ∧ bitV n j ≤ 8000 := by
  unfold bitV
  have : 8 * n / 2 ^ (64 - 8 * j) ≤ 8 * n := Nat.div_le_self _ _
  exact ⟨Int.natCast_nonneg _, by omega⟩
theorem bitV_step (n : Nat) {j : Nat} (hj : j < 8) : 256 * bitV n j + (((BitVec.ofNat 8 (8 * n / 2 ^ (56 - 8 * j))).toNat : Nat) : Int) = bitV n (j + 1) := by
  unfold bitV
  rw [BitVec.toNat_ofNat, show 64 - 8 * (j + 1) = 56 - 8 * j by omega, show 64 - 8 * j = (56 - 8 * j) + 8 by omega, Nat.pow_add, ← Nat.div_div_eq_div_mul]
  generalize 8 * n / 2 ^ (56 - 8 * j) = q
  omega
theorem padL_get (n : Nat) {j : Nat} (hj : j < 8) : (bT (padL n))[1 + zerosN n + j]? = some [.i .u8 (BitVec.ofNat 8 (8 * n / 2 ^ (56 - 8 * j))).toNat] := by
  have h : (padL n)[1 + zerosN n + j]? = some (BitVec.ofNat 8 (8 * n / 2 ^ (56 - 8 * j))) := by
    unfold padL
    rw [List.getElem?_append_right (by rw [padH_len]; omega), padH_len, Nat.add_sub_cancel_left]
    simp [lenB, hj]
  simp [bT, h]
def bkH (b : List (BitVec 8)) (w : H8) : List Blk := [.row 2 1 (bT b ++ bT (padL b.length)) true, hB w true, .var (bC (ofV b))]
def bkB (b : List (BitVec 8)) (w : H8) (j : Nat) : S := ⟨tmL [(0, .t (.sl (bT b)) false), (3, .t (.sl (bT (padL b.length))) true), (6, .ptr 1 0), (10, .ptr 2 0), (12, .t (.i .i64 (bitV b.length j)) true), (13, .t (.i .i64 ((1 + zerosN b.length + j : Nat) : Int)) true)], bkH b w⟩
def bkC (b : List (BitVec 8)) (w : H8) (i : Nat) : S := ⟨tmL [(0, .t (.sl (bT b)) false), (6, .ptr 1 0), (10, .ptr 2 0), (12, .t (.i .i64 (bitV b.length 8)) true), (14, .t (.i .i64 i) true)], bkH b w⟩
theorem s_law08_ShaBlocks (b : List (BitVec 8)) : Spec Tryd.prog 4 [.sl (bT b)] [] (.t (.b true) true) := by
  refine spec_k (hold mixed) b_law08_ShaBlocks [(.b true, true)] ?_
  by_cases hb : b.length ≤ 1000
  · have hb' : ((1000 : Int) < (b.length : Int)) = False := eq_false (by omega)
    have hpl := padL_len b.length
    have hz := zerosN_lt b.length
    have hpr := padL_round b.length
    have q1 : (((padL b.length).length : Int) < 9) = False := eq_false (by omega)
    have q2 : ((72 : Int) < ((padL b.length).length : Int)) = False := eq_false (by omega)
    have q3 : (((b.length + (padL b.length).length : Nat) : Int).tmod 64 != 0) = false := by
      rw [show ((b.length + (padL b.length).length : Nat) : Int).tmod 64 = (((b.length + (padL b.length).length) % 64 : Nat) : Int) from rfl, hpr]
      rfl
    have q4 : ((0 : Int) < ((padL b.length).length : Int)) = True := eq_true (by omega)
    have tb : List.take b.length (bT b) = bT b := List.take_of_length_le (by rw [bT_length]; exact Nat.le_refl _)
    simp -implicitDefEqProofs only [go_sem, reduceIte, Nat.reduceAdd, Nat.reduceSub, Nat.reduceMul, Nat.reduceLT, Nat.reduceLeDiff, Nat.reduceEqDiff, Nat.reduceBEq, Int.reduceLE, Int.reduceLT, Int.reduceToNat, Int.reduceMul, Int.reduceAdd, Int.reduceSub, Int.reduceNeg, Int.reduceEq, reduceCtorEq, Nat.reduceMod, Int.reduceBNe, Int.reduceBEq, Int.reduceGT, Int.reduceGE, Int.reduceNe, Int.cast_ofNat_Int, Int.natCast_zero, Int.natCast_one, bne_self_eq_false, gt_iff_lt, ge_iff_le, Int.lt_irrefl, Int.le_refl, hb']
    first | refine call_k (s_Pad' b.length (by omega)) ?_ | refine call_d (s_Pad' b.length (by omega)) ?_
    simp -implicitDefEqProofs only [go_sem, reduceIte, Nat.reduceAdd, Nat.reduceSub, Nat.reduceMul, Nat.reduceLT, Nat.reduceLeDiff, Nat.reduceEqDiff, Nat.reduceBEq, Int.reduceLE, Int.reduceLT, Int.reduceToNat, Int.reduceMul, Int.reduceAdd, Int.reduceSub, Int.reduceNeg, Int.reduceEq, reduceCtorEq, Nat.reduceMod, Int.reduceBNe, Int.reduceBEq, Int.reduceGT, Int.reduceGE, Int.reduceNe, Int.cast_ofNat_Int, Int.natCast_zero, Int.natCast_one, bne_self_eq_false, gt_iff_lt, ge_iff_le, Int.lt_irrefl, Int.le_refl, q1, q2, q3, q4, padL_0, tb]
    refine ⟨⟨okEs_bT _, by unfold room; omega⟩, ⟨okEs_bT _, by unfold room; omega⟩, ?_⟩
    first | refine call_k s_start ?_ | refine call_d s_start ?_
    simp -implicitDefEqProofs only [go_sem, reduceIte, Nat.reduceAdd, Nat.reduceSub, Nat.reduceMul, Nat.reduceLT, Nat.reduceLeDiff, Nat.reduceEqDiff, Nat.reduceBEq, Int.reduceLE, Int.reduceLT, Int.reduceToNat, Int.reduceMul, Int.reduceAdd, Int.reduceSub, Int.reduceNeg, Int.reduceEq, reduceCtorEq, Nat.reduceMod, Int.reduceBNe, Int.reduceBEq, Int.reduceGT, Int.reduceGE, Int.reduceNe, Int.cast_ofNat_Int, Int.natCast_zero, Int.natCast_one, bne_self_eq_false, gt_iff_lt, ge_iff_le, Int.lt_irrefl, Int.le_refl]
    have hal := allB_len b
    obtain ⟨m, hm⟩ : ∃ m, b.length + (padL b.length).length = 64 * m := ⟨(b.length + (padL b.length).length) / 64, by omega⟩
    refine loop_l (α := Nat) (bkA b) (fun k => m - k) (fun k => k ≤ m) 0 (by simp -implicitDefEqProofs only [go_sem, reduceIte, Nat.reduceAdd, Nat.reduceSub, Nat.reduceMul, Nat.reduceLT, Nat.reduceLeDiff, Nat.reduceEqDiff, Nat.reduceBEq, Int.reduceLE, Int.reduceLT, Int.reduceToNat, Int.reduceMul, Int.reduceAdd, Int.reduceSub, Int.reduceNeg, Int.reduceEq, reduceCtorEq, Nat.reduceMod, bkA, hB]; rfl) (Nat.zero_le _) ?_
    intro k hk R hR
    have e1 : IntKind.i64.wrap (((64 * k : Nat) : Int) + 64) = ((64 * k + 64 : Nat) : Int) := by rw [wrap_i64_id (by omega) (by omega)]; omega
    simp -implicitDefEqProofs only [go_sem, reduceIte, Nat.reduceAdd, Nat.reduceSub, Nat.reduceMul, Nat.reduceLT, Nat.reduceLeDiff, Nat.reduceEqDiff, Nat.reduceBEq, Int.reduceLE, Int.reduceLT, Int.reduceToNat, Int.reduceMul, Int.reduceAdd, Int.reduceSub, Int.reduceNeg, Int.reduceEq, reduceCtorEq, Nat.reduceMod, Int.reduceBNe, Int.reduceBEq, Int.reduceGT, Int.reduceGE, Int.reduceNe, Int.cast_ofNat_Int, Int.natCast_zero, Int.natCast_one, bne_self_eq_false, gt_iff_lt, ge_iff_le, Int.lt_irrefl, Int.le_refl, bkA, hB, e1]
    refine wcond_mk (fun hh => ?_) (fun hh => ?_)
    · have hk' : k < m := by have := of_decide_eq_true hh; omega
      have e2 : (((64 * k + 64 : Nat) : Int) - ((64 * k : Nat) : Int)).toNat = 64 := by omega
      simp -implicitDefEqProofs only [go_sem, reduceIte, Nat.reduceAdd, Nat.reduceSub, Nat.reduceMul, Nat.reduceLT, Nat.reduceLeDiff, Nat.reduceEqDiff, Nat.reduceBEq, Int.reduceLE, Int.reduceLT, Int.reduceToNat, Int.reduceMul, Int.reduceAdd, Int.reduceSub, Int.reduceNeg, Int.reduceEq, reduceCtorEq, Nat.reduceMod, Int.reduceBNe, Int.reduceBEq, Int.reduceGT, Int.reduceGE, Int.reduceNe, Int.cast_ofNat_Int, Int.natCast_zero, Int.natCast_one, bne_self_eq_false, gt_iff_lt, ge_iff_le, Int.lt_irrefl, Int.le_refl, e1, e2]
      refine ⟨⟨by omega, by omega⟩, ?_⟩
      first | refine call_k (s_Block' (absV H8.first (allB b) k) (((allB b).drop (64 * k)).take 64) (by simp only [List.length_take, List.length_drop]; omega)) ?_ (by simp -implicitDefEqProofs only [go_sem, reduceIte, Nat.reduceAdd, Nat.reduceSub, Nat.reduceMul, Nat.reduceLT, Nat.reduceLeDiff, Nat.reduceEqDiff, Nat.reduceBEq, Int.reduceLE, Int.reduceLT, Int.reduceToNat, Int.reduceMul, Int.reduceAdd, Int.reduceSub, Int.reduceNeg, Int.reduceEq, reduceCtorEq, Nat.reduceMod, Int.reduceBNe, Int.reduceBEq, Int.reduceGT, Int.reduceGE, Int.reduceNe, Int.cast_ofNat_Int, Int.natCast_zero, Int.natCast_one, bne_self_eq_false, gt_iff_lt, ge_iff_le, Int.lt_irrefl, Int.le_refl]; rw [← bT_append]; exact ⟨by rw [bT_length, ← allB, hal]; omega, bT_part _ _ _⟩) | refine call_d (s_Block' (absV H8.first (allB b) k) (((allB b).drop (64 * k)).take 64) (by simp only [List.length_take, List.length_drop]; omega)) ?_ (by simp -implicitDefEqProofs only [go_sem, reduceIte, Nat.reduceAdd, Nat.reduceSub, Nat.reduceMul, Nat.reduceLT, Nat.reduceLeDiff, Nat.reduceEqDiff, Nat.reduceBEq, Int.reduceLE, Int.reduceLT, Int.reduceToNat, Int.reduceMul, Int.reduceAdd, Int.reduceSub, Int.reduceNeg, Int.reduceEq, reduceCtorEq, Nat.reduceMod, Int.reduceBNe, Int.reduceBEq, Int.reduceGT, Int.reduceGE, Int.reduceNe, Int.cast_ofNat_Int, Int.natCast_zero, Int.natCast_one, bne_self_eq_false, gt_iff_lt, ge_iff_le, Int.lt_irrefl, Int.le_refl]; rw [← bT_append]; exact ⟨by rw [bT_length, ← allB, hal]; omega, bT_part _ _ _⟩)
      simp -implicitDefEqProofs only [go_sem, reduceIte, Nat.reduceAdd, Nat.reduceSub, Nat.reduceMul, Nat.reduceLT, Nat.reduceLeDiff, Nat.reduceEqDiff, Nat.reduceBEq, Int.reduceLE, Int.reduceLT, Int.reduceToNat, Int.reduceMul, Int.reduceAdd, Int.reduceSub, Int.reduceNeg, Int.reduceEq, reduceCtorEq, Nat.reduceMod, Int.reduceBNe, Int.reduceBEq, Int.reduceGT, Int.reduceGE, Int.reduceNe, Int.cast_ofNat_Int, Int.natCast_zero, Int.natCast_one, bne_self_eq_false, gt_iff_lt, ge_iff_le, Int.lt_irrefl, Int.le_refl]
      refine hR (k + 1) _ ?_ (by omega) (by omega)
      simp -implicitDefEqProofs only [go_sem, reduceIte, Nat.reduceAdd, Nat.reduceSub, Nat.reduceMul, Nat.reduceLT, Nat.reduceLeDiff, Nat.reduceEqDiff, Nat.reduceBEq, Int.reduceLE, Int.reduceLT, Int.reduceToNat, Int.reduceMul, Int.reduceAdd, Int.reduceSub, Int.reduceNeg, Int.reduceEq, reduceCtorEq, Nat.reduceMod, e1, bkA, hB, absV, show 64 * (k + 1) = 64 * k + 64 by omega]
    · have hk' : k = m := by have := of_decide_eq_false hh; omega
      subst hk'
      clear hR
      simp -implicitDefEqProofs only [go_sem, reduceIte, Nat.reduceAdd, Nat.reduceSub, Nat.reduceMul, Nat.reduceLT, Nat.reduceLeDiff, Nat.reduceEqDiff, Nat.reduceBEq, Int.reduceLE, Int.reduceLT, Int.reduceToNat, Int.reduceMul, Int.reduceAdd, Int.reduceSub, Int.reduceNeg, Int.reduceEq, reduceCtorEq, Nat.reduceMod, Int.reduceBNe, Int.reduceBEq, Int.reduceGT, Int.reduceGE, Int.reduceNe, Int.cast_ofNat_Int, Int.natCast_zero, Int.natCast_one, bne_self_eq_false, gt_iff_lt, ge_iff_le, Int.lt_irrefl, Int.le_refl]
      first | refine call_k (s_Sum' b (by omega)) ?_ | refine call_d (s_Sum' b (by omega)) ?_
      have hd := ofV_len b
      simp -implicitDefEqProofs only [go_sem, reduceIte, Nat.reduceAdd, Nat.reduceSub, Nat.reduceMul, Nat.reduceLT, Nat.reduceLeDiff, Nat.reduceEqDiff, Nat.reduceBEq, Int.reduceLE, Int.reduceLT, Int.reduceToNat, Int.reduceMul, Int.reduceAdd, Int.reduceSub, Int.reduceNeg, Int.reduceEq, reduceCtorEq, Nat.reduceMod, Int.reduceBNe, Int.reduceBEq, Int.reduceGT, Int.reduceGE, Int.reduceNe, Int.cast_ofNat_Int, Int.natCast_zero, Int.natCast_one, bne_self_eq_false, gt_iff_lt, ge_iff_le, Int.lt_irrefl, Int.le_refl, bN_map, hd, bC_take hd]
      refine ⟨bC_one _, ?_⟩
      have hw : absV H8.first (allB b) k = afterV H8.first (allB b) := by unfold afterV; rw [hal, hm, Nat.mul_div_cancel_left _ (by omega)]
      rw [hw]
      have hof : ofV b = digV (afterV H8.first (allB b)) := rfl
      generalize afterV H8.first (allB b) = w at *
      have f1 : IntKind.i64.wrap (((padL b.length).length : Int) - 8) = ((1 + zerosN b.length : Nat) : Int) := by rw [wrap_i64_id (by omega) (by omega)]; omega
      refine loop_l (α := Nat) (bkB b w) (fun j => 8 - j) (fun j => j ≤ 8) 0 (by simp -implicitDefEqProofs only [go_sem, reduceIte, Nat.reduceAdd, Nat.reduceSub, Nat.reduceMul, Nat.reduceLT, Nat.reduceLeDiff, Nat.reduceEqDiff, Nat.reduceBEq, Int.reduceLE, Int.reduceLT, Int.reduceToNat, Int.reduceMul, Int.reduceAdd, Int.reduceSub, Int.reduceNeg, Int.reduceEq, reduceCtorEq, Nat.reduceMod, bkB, bkH, hB, bitV_0 hb, f1]) (Nat.zero_le _) ?_
      intro j hj R hR
      simp -implicitDefEqProofs only [go_sem, reduceIte, Nat.reduceAdd, Nat.reduceSub, Nat.reduceMul, Nat.reduceLT, Nat.reduceLeDiff, Nat.reduceEqDiff, Nat.reduceBEq, Int.reduceLE, Int.reduceLT, Int.reduceToNat, Int.reduceMul, Int.reduceAdd, Int.reduceSub, Int.reduceNeg, Int.reduceEq, reduceCtorEq, Nat.reduceMod, Int.reduceBNe, Int.reduceBEq, Int.reduceGT, Int.reduceGE, Int.reduceNe, Int.cast_ofNat_Int, Int.natCast_zero, Int.natCast_one, bne_self_eq_false, gt_iff_lt, ge_iff_le, Int.lt_irrefl, Int.le_refl, bkB, bkH, hB]
      refine wcond_mk (fun hh => ?_) (fun hh => ?_)
      · have hj' : j < 8 := by have := of_decide_eq_true hh; omega
        have hB1 := bitV_le hb j
        have hb8 := (BitVec.ofNat 8 (8 * b.length / 2 ^ (56 - 8 * j))).isLt
        have hst := bitV_step b.length hj'
        have g1 : IntKind.i64.wrap (256 * bitV b.length j) = 256 * bitV b.length j := wrap_i64_id (by omega) (by omega)
        have hg := padL_get b.length hj'
        generalize BitVec.ofNat 8 (8 * b.length / 2 ^ (56 - 8 * j)) = y at *
        have g2 : IntKind.i64.wrap ((y.toNat : Nat) : Int) = ((y.toNat : Nat) : Int) := wrap_i64_id (by omega) (by omega)
        have g3 : IntKind.i64.wrap (256 * bitV b.length j + ((y.toNat : Nat) : Int)) = bitV b.length (j + 1) := by rw [hst]; have := bitV_le hb (j + 1); exact wrap_i64_id (by omega) (by omega)
        have g4 : IntKind.i64.wrap (((1 + zerosN b.length + j : Nat) : Int) + 1) = ((1 + zerosN b.length + (j + 1) : Nat) : Int) := by rw [wrap_i64_id (by omega) (by omega)]; omega
        simp -implicitDefEqProofs only [go_sem, reduceIte, Nat.reduceAdd, Nat.reduceSub, Nat.reduceMul, Nat.reduceLT, Nat.reduceLeDiff, Nat.reduceEqDiff, Nat.reduceBEq, Int.reduceLE, Int.reduceLT, Int.reduceToNat, Int.reduceMul, Int.reduceAdd, Int.reduceSub, Int.reduceNeg, Int.reduceEq, reduceCtorEq, Nat.reduceMod, Int.reduceBNe, Int.reduceBEq, Int.reduceGT, Int.reduceGE, Int.reduceNe, Int.cast_ofNat_Int, Int.natCast_zero, Int.natCast_one, bne_self_eq_false, gt_iff_lt, ge_iff_le, Int.lt_irrefl, Int.le_refl, hg, g1, g2, g3, g4]
        refine hR (j + 1) _ ?_ (by omega) (by omega)
        simp -implicitDefEqProofs only [go_sem, reduceIte, Nat.reduceAdd, Nat.reduceSub, Nat.reduceMul, Nat.reduceLT, Nat.reduceLeDiff, Nat.reduceEqDiff, Nat.reduceBEq, Int.reduceLE, Int.reduceLT, Int.reduceToNat, Int.reduceMul, Int.reduceAdd, Int.reduceSub, Int.reduceNeg, Int.reduceEq, reduceCtorEq, Nat.reduceMod, bkB, bkH, hB]
      · have hj' : j = 8 := by have := of_decide_eq_false hh; omega
        subst hj'
        clear hR
        simp -implicitDefEqProofs only [go_sem, reduceIte, Nat.reduceAdd, Nat.reduceSub, Nat.reduceMul, Nat.reduceLT, Nat.reduceLeDiff, Nat.reduceEqDiff, Nat.reduceBEq, Int.reduceLE, Int.reduceLT, Int.reduceToNat, Int.reduceMul, Int.reduceAdd, Int.reduceSub, Int.reduceNeg, Int.reduceEq, reduceCtorEq, Nat.reduceMod, Int.reduceBNe, Int.reduceBEq, Int.reduceGT, Int.reduceGE, Int.reduceNe, Int.cast_ofNat_Int, Int.natCast_zero, Int.natCast_one, bne_self_eq_false, gt_iff_lt, ge_iff_le, Int.lt_irrefl, Int.le_refl]
        refine loop_l (α := Nat) (bkC b w) (fun i => 32 - i) (fun i => i ≤ 32) 0 (by simp -implicitDefEqProofs only [go_sem, reduceIte, Nat.reduceAdd, Nat.reduceSub, Nat.reduceMul, Nat.reduceLT, Nat.reduceLeDiff, Nat.reduceEqDiff, Nat.reduceBEq, Int.reduceLE, Int.reduceLT, Int.reduceToNat, Int.reduceMul, Int.reduceAdd, Int.reduceSub, Int.reduceNeg, Int.reduceEq, reduceCtorEq, Nat.reduceMod, bkC, bkH, hB]; rfl) (Nat.zero_le _) ?_
        intro i hi R hR
        simp -implicitDefEqProofs only [go_sem, reduceIte, Nat.reduceAdd, Nat.reduceSub, Nat.reduceMul, Nat.reduceLT, Nat.reduceLeDiff, Nat.reduceEqDiff, Nat.reduceBEq, Int.reduceLE, Int.reduceLT, Int.reduceToNat, Int.reduceMul, Int.reduceAdd, Int.reduceSub, Int.reduceNeg, Int.reduceEq, reduceCtorEq, Nat.reduceMod, Int.reduceBNe, Int.reduceBEq, Int.reduceGT, Int.reduceGE, Int.reduceNe, Int.cast_ofNat_Int, Int.natCast_zero, Int.natCast_one, bne_self_eq_false, gt_iff_lt, ge_iff_le, Int.lt_irrefl, Int.le_refl, bkC, bkH, hB]
        refine wcond_mk (fun hh => ?_) (fun hh => ?_)
        · have hi' : i < 32 := by have := of_decide_eq_true hh; omega
          have e1 : (i : Int).tdiv 4 = ((i / 4 : Nat) : Int) := rfl
          have e2 : (i : Int).tmod 4 = ((i % 4 : Nat) : Int) := rfl
          have e0 : IntKind.i64.wrap ((i / 4 : Nat) : Int) = ((i / 4 : Nat) : Int) := by rw [wrap_i64_id (by omega) (by omega)]
          have e3 : IntKind.i64.wrap (8 * ((i % 4 : Nat) : Int)) = ((8 * (i % 4) : Nat) : Int) := by rw [wrap_i64_id (by omega) (by omega)]; omega
          have e4 : IntKind.i64.wrap (24 - ((8 * (i % 4) : Nat) : Int)) = ((24 - 8 * (i % 4) : Nat) : Int) := by rw [wrap_i64_id (by omega) (by omega)]; omega
          have e5 : (0 ≤ ((24 - 8 * (i % 4) : Nat) : Int)) = True := eq_true (by omega)
          have e6 : min (24 - 8 * (i % 4)) 32 = 24 - 8 * (i % 4) := by omega
          have e7 : (((i / 4 : Nat) : Int) < 8) = True := eq_true (by omega)
          have e8 : ((i : Int) < 32) = True := eq_true (by omega)
          have hgi : (bC (ofV b))[i * 1]? = some (.t (.i .u8 (((w.list.getD (i / 4) 0#32) >>> (24 - 8 * (i % 4))).setWidth 8 : BitVec 8).toNat) true) := by
            rw [hof, Nat.mul_one]
            exact bC_at (by unfold digV; rw [List.getElem?_map, List.getElem?_range hi']; rfl)
          simp -implicitDefEqProofs only [go_sem, reduceIte, Nat.reduceAdd, Nat.reduceSub, Nat.reduceMul, Nat.reduceLT, Nat.reduceLeDiff, Nat.reduceEqDiff, Nat.reduceBEq, Int.reduceLE, Int.reduceLT, Int.reduceToNat, Int.reduceMul, Int.reduceAdd, Int.reduceSub, Int.reduceNeg, Int.reduceEq, reduceCtorEq, Nat.reduceMod, Int.reduceBNe, Int.reduceBEq, Int.reduceGT, Int.reduceGE, Int.reduceNe, Int.cast_ofNat_Int, Int.natCast_zero, Int.natCast_one, bne_self_eq_false, gt_iff_lt, ge_iff_le, Int.lt_irrefl, Int.le_refl, e0, e1, e2, e3, e4, e5, e6, e7, e8, hB_get w true (show i / 4 < 8 by omega), hB_some w true (show i / 4 < 8 by omega), shr_byte, hgi]
          refine hR (i + 1) _ ?_ (by omega) (by omega)
          simp -implicitDefEqProofs only [go_sem, reduceIte, Nat.reduceAdd, Nat.reduceSub, Nat.reduceMul, Nat.reduceLT, Nat.reduceLeDiff, Nat.reduceEqDiff, Nat.reduceBEq, Int.reduceLE, Int.reduceLT, Int.reduceToNat, Int.reduceMul, Int.reduceAdd, Int.reduceSub, Int.reduceNeg, Int.reduceEq, reduceCtorEq, Nat.reduceMod, wrap_i64_id (show -9223372036854775808 ≤ (i : Int) + 1 by omega) (by omega), Int.natCast_add, bkC, bkH, hB]
          try rfl
        · have hi' : i = 32 := by have := of_decide_eq_false hh; omega
          subst hi'
          clear hR
          have g8 := bitV_8 b.length
          have g9 : IntKind.i64.wrap (8 * (b.length : Int)) = 8 * (b.length : Int) := wrap_i64_id (by omega) (by omega)
          simp -implicitDefEqProofs only [go_sem, reduceIte, Nat.reduceAdd, Nat.reduceSub, Nat.reduceMul, Nat.reduceLT, Nat.reduceLeDiff, Nat.reduceEqDiff, Nat.reduceBEq, Int.reduceLE, Int.reduceLT, Int.reduceToNat, Int.reduceMul, Int.reduceAdd, Int.reduceSub, Int.reduceNeg, Int.reduceEq, reduceCtorEq, Nat.reduceMod, Int.reduceBNe, Int.reduceBEq, Int.reduceGT, Int.reduceGE, Int.reduceNe, Int.cast_ofNat_Int, Int.natCast_zero, Int.natCast_one, bne_self_eq_false, gt_iff_lt, ge_iff_le, Int.lt_irrefl, Int.le_refl, g8, g9]
          first | refine call_k s_alive ?_ | refine call_d s_alive ?_
          simp -implicitDefEqProofs only [go_sem, reduceIte, Nat.reduceAdd, Nat.reduceSub, Nat.reduceMul, Nat.reduceLT, Nat.reduceLeDiff, Nat.reduceEqDiff, Nat.reduceBEq, Int.reduceLE, Int.reduceLT, Int.reduceToNat, Int.reduceMul, Int.reduceAdd, Int.reduceSub, Int.reduceNeg, Int.reduceEq, reduceCtorEq, Nat.reduceMod, Int.reduceBNe, Int.reduceBEq, Int.reduceGT, Int.reduceGE, Int.reduceNe, Int.cast_ofNat_Int, Int.natCast_zero, Int.natCast_one, bne_self_eq_false, gt_iff_lt, ge_iff_le, Int.lt_irrefl, Int.le_refl]
  · have hb' : ((1000 : Int) < (b.length : Int)) = True := eq_true (by omega)
    simp -implicitDefEqProofs only [go_sem, reduceIte, Nat.reduceAdd, Nat.reduceSub, Nat.reduceMul, Nat.reduceLT, Nat.reduceLeDiff, Nat.reduceEqDiff, Nat.reduceBEq, Int.reduceLE, Int.reduceLT, Int.reduceToNat, Int.reduceMul, Int.reduceAdd, Int.reduceSub, Int.reduceNeg, Int.reduceEq, reduceCtorEq, Nat.reduceMod, Int.reduceBNe, Int.reduceBEq, Int.reduceGT, Int.reduceGE, Int.reduceNe, Int.cast_ofNat_Int, Int.natCast_zero, Int.natCast_one, bne_self_eq_false, gt_iff_lt, ge_iff_le, Int.lt_irrefl, Int.le_refl, hb']
    first | refine call_k s_alive ?_ | refine call_d s_alive ?_
    simp -implicitDefEqProofs only [go_sem, reduceIte, Nat.reduceAdd, Nat.reduceSub, Nat.reduceMul, Nat.reduceLT, Nat.reduceLeDiff, Nat.reduceEqDiff, Nat.reduceBEq, Int.reduceLE, Int.reduceLT, Int.reduceToNat, Int.reduceMul, Int.reduceAdd, Int.reduceSub, Int.reduceNeg, Int.reduceEq, reduceCtorEq, Nat.reduceMod, Int.reduceBNe, Int.reduceBEq, Int.reduceGT, Int.reduceGE, Int.reduceNe, Int.cast_ofNat_Int, Int.natCast_zero, Int.natCast_one, bne_self_eq_false, gt_iff_lt, ge_iff_le, Int.lt_irrefl, Int.le_refl]
end Go.Proofs.YtgkmhmhbepfiaaaDoor.Pm
