/- ShaOn. -/
import Derived.Test.YtgkmhmhbepfiaaaDoorPmHp
set_option linter.all false
set_option maxRecDepth 100000
set_option maxHeartbeats 2000000
namespace Go.Proofs.YtgkmhmhbepfiaaaDoor.Pm
open Go Go.RowKit

theorem afterV_short (h : H8) {b : List (BitVec 8)} (hb : b.length < 64) : afterV h b = h := by
  unfold afterV
  rw [Nat.div_eq_of_lt hb]
  rfl
theorem restV_short {b : List (BitVec 8)} (hb : b.length < 64) : restV b = b := by
  unfold restV
  rw [Nat.div_eq_of_lt hb]
  rfl
theorem afterV_take (h : H8) (b : List (BitVec 8)) : afterV h (b.take (64 * (b.length / 64))) = afterV h b := by
  have hl : (b.take (64 * (b.length / 64))).length = 64 * (b.length / 64) := by simp; omega
  unfold afterV
  rw [hl, Nat.mul_div_cancel_left _ (by omega)]
  have := absV_left h (b.take (64 * (b.length / 64))) (restV b) (b.length / 64) (by omega)
  rw [← split64 b] at this
  exact this.symm
theorem restV_take (b : List (BitVec 8)) : restV (b.take (64 * (b.length / 64))) = [] := restV_nil (by simp; omega)
theorem bT_nl : bT [] = [] := rfl
attribute [go_sem] bT_nl
def hvN (w : H8) (k : Int) (l : Bool) : Blk := .var [.t (.i .u32 w.a.toNat) l, .t (.i .u32 w.b.toNat) l, .t (.i .u32 w.c.toNat) l, .t (.i .u32 w.d.toNat) l, .t (.i .u32 w.e.toNat) l, .t (.i .u32 w.f.toNat) l, .t (.i .u32 w.g.toNat) l, .t (.i .u32 w.h.toNat) l, .nl, .t (.i .i64 k) true]
def hvS (w : H8) (k : Int) (l : Bool) : Blk := .var [.t (.i .u32 w.a.toNat) l, .t (.i .u32 w.b.toNat) l, .t (.i .u32 w.c.toNat) l, .t (.i .u32 w.d.toNat) l, .t (.i .u32 w.e.toNat) l, .t (.i .u32 w.f.toNat) l, .t (.i .u32 w.g.toNat) l, .t (.i .u32 w.h.toNat) l, .t (.sl []) true, .t (.i .i64 k) true]
def onA (w : H8) (k : Int) (b : List (BitVec 8)) (j : Nat) : S := ⟨tmL [(1, .t (.i .i64 k) true), (2, .t (.sl (bT b)) false), (3, .ptr 0 0), (7, .ptr 1 0), (10, .t (.i .i64 (64 * (b.length / 64) : Nat)) true), (11, .t (.i .i64 (64 * j : Nat)) true)],
  [hB (absV w b j) (decide (0 < j)), hvN w (64 * k) false, hvS w (64 * k) true]⟩
theorem s_law08_ShaOn (w : H8) (k : Int) (b : List (BitVec 8)) : Spec Tryd.prog 7 [.agg w.cells, .i .i64 k, .sl (bT b)] [] (.t (.b true) true) := by
  refine spec_k (hold mixed) b_law08_ShaOn [(.b true, true)] ?_
  by_cases h0 : 0 ≤ k
  · have h0' : (k < 0) = False := eq_false (by omega)
    by_cases h1 : k ≤ 1000
    · have h1' : (1000 < k) = False := eq_false (by omega)
      by_cases hb : b.length ≤ 1000
      · have hb' : ((1000 : Int) < (b.length : Int)) = False := eq_false (by omega)
        have e1 : IntKind.i64.wrap (64 * k) = 64 * k := wrap_i64_id (by omega) (by omega)
        have kh : (⟨w, [], 64 * k⟩ : HV).ok = true := by
          rw [HV.ok_iff]
          refine ⟨by simp only; omega, by simp only; omega, ?_⟩
          simp only [List.length_nil]
          rw [Int.tmod_eq_emod_of_nonneg (by omega)]
          omega
        have p0 : (⟨w, [], 64 * k⟩ : HV).put [] = ⟨w, [], 64 * k⟩ := by
          simp only [HV.put, List.append_nil, List.length_nil, Int.natCast_zero, Int.add_zero]
          rw [afterV_short w (by simp), restV_short (by simp)]
        have W0 := s_Write' ⟨w, [], 64 * k⟩ [] kh (by simp only [List.length_nil]; omega)
        rw [p0] at W0
        have S0 := s_ref08_Same ⟨w, [], 64 * k⟩ ⟨w, [], 64 * k⟩ (by simp) (by simp)
        rw [show sameV ⟨w, [], 64 * k⟩ ⟨w, [], 64 * k⟩ = true by simp [sameV]] at S0
        have q0 : (b.length : Int).tdiv 64 = ((b.length / 64 : Nat) : Int) := rfl
        have q1 : IntKind.i64.wrap ((b.length / 64 : Nat) : Int) = ((b.length / 64 : Nat) : Int) := wrap_i64_id (by omega) (by omega)
        have q2 : IntKind.i64.wrap (((b.length / 64 : Nat) : Int) * 64) = ((64 * (b.length / 64) : Nat) : Int) := by rw [wrap_i64_id (by omega) (by omega)]; omega
        simp -implicitDefEqProofs only [go_sem, reduceIte, Nat.reduceAdd, Nat.reduceSub, Nat.reduceMul, Nat.reduceLT, Nat.reduceLeDiff, Nat.reduceEqDiff, Nat.reduceBEq, Int.reduceLE, Int.reduceLT, Int.reduceToNat, Int.reduceMul, Int.reduceAdd, Int.reduceSub, Int.reduceNeg, Int.reduceEq, reduceCtorEq, Nat.reduceMod, Int.reduceBNe, Int.reduceBEq, Int.reduceGT, Int.reduceGE, Int.reduceNe, Int.cast_ofNat_Int, Int.natCast_zero, Int.natCast_one, bne_self_eq_false, gt_iff_lt, ge_iff_le, Int.lt_irrefl, Int.le_refl, h0', h1', hb', e1, q0, q1, q2]
        first | refine call_k W0 ?_ | refine call_d W0 ?_
        simp -implicitDefEqProofs only [go_sem, reduceIte, Nat.reduceAdd, Nat.reduceSub, Nat.reduceMul, Nat.reduceLT, Nat.reduceLeDiff, Nat.reduceEqDiff, Nat.reduceBEq, Int.reduceLE, Int.reduceLT, Int.reduceToNat, Int.reduceMul, Int.reduceAdd, Int.reduceSub, Int.reduceNeg, Int.reduceEq, reduceCtorEq, Nat.reduceMod, Int.reduceBNe, Int.reduceBEq, Int.reduceGT, Int.reduceGE, Int.reduceNe, Int.cast_ofNat_Int, Int.natCast_zero, Int.natCast_one, bne_self_eq_false, gt_iff_lt, ge_iff_le, Int.lt_irrefl, Int.le_refl]
        first | refine call_k S0 ?_ | refine call_d S0 ?_
        simp -implicitDefEqProofs only [go_sem, reduceIte, Nat.reduceAdd, Nat.reduceSub, Nat.reduceMul, Nat.reduceLT, Nat.reduceLeDiff, Nat.reduceEqDiff, Nat.reduceBEq, Int.reduceLE, Int.reduceLT, Int.reduceToNat, Int.reduceMul, Int.reduceAdd, Int.reduceSub, Int.reduceNeg, Int.reduceEq, reduceCtorEq, Nat.reduceMod, Int.reduceBNe, Int.reduceBEq, Int.reduceGT, Int.reduceGE, Int.reduceNe, Int.cast_ofNat_Int, Int.natCast_zero, Int.natCast_one, bne_self_eq_false, gt_iff_lt, ge_iff_le, Int.lt_irrefl, Int.le_refl, q0, q1, q2]
        refine loop_l (α := Nat) (onA w k b) (fun j => b.length / 64 - j) (fun j => j ≤ b.length / 64) 0 (by simp -implicitDefEqProofs only [go_sem, reduceIte, Nat.reduceAdd, Nat.reduceSub, Nat.reduceMul, Nat.reduceLT, Nat.reduceLeDiff, Nat.reduceEqDiff, Nat.reduceBEq, Int.reduceLE, Int.reduceLT, Int.reduceToNat, Int.reduceMul, Int.reduceAdd, Int.reduceSub, Int.reduceNeg, Int.reduceEq, reduceCtorEq, Nat.reduceMod, onA, hB, hvN, hvS]; try rfl) (Nat.zero_le _) ?_
        intro j hj R hR
        have r1 : IntKind.i64.wrap (((64 * j : Nat) : Int) + 64) = ((64 * j + 64 : Nat) : Int) := by rw [wrap_i64_id (by omega) (by omega)]; omega
        simp -implicitDefEqProofs only [go_sem, reduceIte, Nat.reduceAdd, Nat.reduceSub, Nat.reduceMul, Nat.reduceLT, Nat.reduceLeDiff, Nat.reduceEqDiff, Nat.reduceBEq, Int.reduceLE, Int.reduceLT, Int.reduceToNat, Int.reduceMul, Int.reduceAdd, Int.reduceSub, Int.reduceNeg, Int.reduceEq, reduceCtorEq, Nat.reduceMod, Int.reduceBNe, Int.reduceBEq, Int.reduceGT, Int.reduceGE, Int.reduceNe, Int.cast_ofNat_Int, Int.natCast_zero, Int.natCast_one, bne_self_eq_false, gt_iff_lt, ge_iff_le, Int.lt_irrefl, Int.le_refl, onA, hB, hvN, hvS, r1]
        refine wcond_mk (fun hh => ?_) (fun hh => ?_)
        · have hj' : j < b.length / 64 := by have := of_decide_eq_true hh; omega
          have r2 : (((64 * j + 64 : Nat) : Int) - ((64 * j : Nat) : Int)).toNat = 64 := by omega
          simp -implicitDefEqProofs only [go_sem, reduceIte, Nat.reduceAdd, Nat.reduceSub, Nat.reduceMul, Nat.reduceLT, Nat.reduceLeDiff, Nat.reduceEqDiff, Nat.reduceBEq, Int.reduceLE, Int.reduceLT, Int.reduceToNat, Int.reduceMul, Int.reduceAdd, Int.reduceSub, Int.reduceNeg, Int.reduceEq, reduceCtorEq, Nat.reduceMod, Int.reduceBNe, Int.reduceBEq, Int.reduceGT, Int.reduceGE, Int.reduceNe, Int.cast_ofNat_Int, Int.natCast_zero, Int.natCast_one, bne_self_eq_false, gt_iff_lt, ge_iff_le, Int.lt_irrefl, Int.le_refl, r1, r2, bT_part]
          refine ⟨⟨⟨by omega, by omega⟩, .inr (okEs_bT b)⟩, ?_⟩
          first | refine call_k (s_Block' (absV w b j) ((b.drop (64 * j)).take 64) (by simp only [List.length_take, List.length_drop]; omega)) ?_ | refine call_d (s_Block' (absV w b j) ((b.drop (64 * j)).take 64) (by simp only [List.length_take, List.length_drop]; omega)) ?_
          simp -implicitDefEqProofs only [go_sem, reduceIte, Nat.reduceAdd, Nat.reduceSub, Nat.reduceMul, Nat.reduceLT, Nat.reduceLeDiff, Nat.reduceEqDiff, Nat.reduceBEq, Int.reduceLE, Int.reduceLT, Int.reduceToNat, Int.reduceMul, Int.reduceAdd, Int.reduceSub, Int.reduceNeg, Int.reduceEq, reduceCtorEq, Nat.reduceMod, Int.reduceBNe, Int.reduceBEq, Int.reduceGT, Int.reduceGE, Int.reduceNe, Int.cast_ofNat_Int, Int.natCast_zero, Int.natCast_one, bne_self_eq_false, gt_iff_lt, ge_iff_le, Int.lt_irrefl, Int.le_refl]
          refine hR (j + 1) _ ?_ (by omega) (by omega)
          simp -implicitDefEqProofs only [go_sem, reduceIte, Nat.reduceAdd, Nat.reduceSub, Nat.reduceMul, Nat.reduceLT, Nat.reduceLeDiff, Nat.reduceEqDiff, Nat.reduceBEq, Int.reduceLE, Int.reduceLT, Int.reduceToNat, Int.reduceMul, Int.reduceAdd, Int.reduceSub, Int.reduceNeg, Int.reduceEq, reduceCtorEq, Nat.reduceMod, r1, onA, hB, hvN, hvS, absV, show 64 * (j + 1) = 64 * j + 64 by omega]
          try rfl
        · have hj' : j = b.length / 64 := by have := of_decide_eq_false hh; omega
          subst hj'
          clear hR hh r1
          have hqn : ((64 * (b.length / 64) : Nat) : Int) = 64 * ((b.length / 64 : Nat) : Int) := by omega
          have u1 : List.take (((64 * (b.length / 64) : Nat) : Int) - 0).toNat (bT b) = bT (b.take (64 * (b.length / 64))) := by rw [Int.sub_zero, Int.toNat_natCast]; simp [bT]
          have u2 : List.drop (64 * (b.length / 64)) (bT b) = bT (restV b) := by simp [bT, restV]
          have u3 : List.take (((b.length : Nat) : Int) - ((64 * (b.length / 64) : Nat) : Int)).toNat (bT (restV b)) = bT (restV b) := List.take_of_length_le (by rw [bT_length, restV_len]; omega)
          have hlt : (b.take (64 * (b.length / 64))).length = 64 * (b.length / 64) := by simp; omega
          have hrl := restV_len b
          have pA : (⟨w, [], 64 * k⟩ : HV).put (b.take (64 * (b.length / 64))) = ⟨afterV w b, [], 64 * k + ((64 * (b.length / 64) : Nat) : Int)⟩ := by
            simp only [HV.put, List.nil_append]
            rw [afterV_take, restV_take, hlt]
          have pB : (⟨w, [], 64 * k⟩ : HV).put b = ⟨afterV w b, restV b, 64 * k + (b.length : Int)⟩ := by
            simp only [HV.put, List.nil_append]
          have pC : (⟨afterV w b, [], 64 * k + ((64 * (b.length / 64) : Nat) : Int)⟩ : HV).put (restV b) = ⟨afterV w b, restV b, 64 * k + (b.length : Int)⟩ := by
            simp only [HV.put, List.nil_append]
            rw [afterV_short _ (by omega), restV_short (by omega)]
            congr 1
            omega
          have W1 := s_Write' ⟨w, [], 64 * k⟩ (b.take (64 * (b.length / 64))) kh (by rw [hlt]; simp only; omega)
          have k1 : ((⟨w, [], 64 * k⟩ : HV).put (b.take (64 * (b.length / 64)))).ok = true := HV.put_ok kh (by rw [hlt]; simp only; omega)
          have W2 := s_Write' ⟨w, [], 64 * k⟩ b kh (by simp only; omega)
          have k2 : ((⟨w, [], 64 * k⟩ : HV).put b).ok = true := HV.put_ok kh (by simp only; omega)
          rw [pA] at W1 k1
          rw [pB] at W2 k2
          have W3 := s_Write' _ (restV b) k1 (by simp only; omega)
          rw [pC] at W3
          have F := s_Finish' _ k2
          have S1 := s_ref08_Same ⟨afterV w b, [], 64 * k + ((64 * (b.length / 64) : Nat) : Int)⟩ ⟨afterV w b, [], 64 * k + ((64 * (b.length / 64) : Nat) : Int)⟩ (by simp) (by simp)
          rw [show ∀ h : HV, sameV h h = true from fun h => by simp [sameV]] at S1
          have B1 := s_ref01_SameBytes (restV b) (restV b) (by omega) (by omega)
          have hd : (HV.fin ⟨afterV w b, restV b, 64 * k + (b.length : Int)⟩).length = 32 := digV_len _
          have v1 : IntKind.i64.wrap (64 * k + ((64 * (b.length / 64) : Nat) : Int)) = 64 * k + ((64 * (b.length / 64) : Nat) : Int) := wrap_i64_id (by omega) (by omega)
          have v2 : IntKind.i64.wrap (64 * k + (b.length : Int)) = 64 * k + (b.length : Int) := wrap_i64_id (by omega) (by omega)
          have hX : absV w b (b.length / 64) = afterV w b := rfl
          rw [hX]
          generalize HV.fin ⟨afterV w b, restV b, 64 * k + (b.length : Int)⟩ = dg at *
          generalize afterV w b = X at *
          simp -implicitDefEqProofs only [go_sem, reduceIte, Nat.reduceAdd, Nat.reduceSub, Nat.reduceMul, Nat.reduceLT, Nat.reduceLeDiff, Nat.reduceEqDiff, Nat.reduceBEq, Int.reduceLE, Int.reduceLT, Int.reduceToNat, Int.reduceMul, Int.reduceAdd, Int.reduceSub, Int.reduceNeg, Int.reduceEq, reduceCtorEq, Nat.reduceMod, Int.reduceBNe, Int.reduceBEq, Int.reduceGT, Int.reduceGE, Int.reduceNe, Int.cast_ofNat_Int, Int.natCast_zero, Int.natCast_one, bne_self_eq_false, gt_iff_lt, ge_iff_le, Int.lt_irrefl, Int.le_refl, u1, u2]
          refine ⟨⟨by omega, .inl trivial⟩, ?_⟩
          first | refine call_k W1 ?_ | refine call_d W1 ?_
          simp -implicitDefEqProofs only [go_sem, reduceIte, Nat.reduceAdd, Nat.reduceSub, Nat.reduceMul, Nat.reduceLT, Nat.reduceLeDiff, Nat.reduceEqDiff, Nat.reduceBEq, Int.reduceLE, Int.reduceLT, Int.reduceToNat, Int.reduceMul, Int.reduceAdd, Int.reduceSub, Int.reduceNeg, Int.reduceEq, reduceCtorEq, Nat.reduceMod, Int.reduceBNe, Int.reduceBEq, Int.reduceGT, Int.reduceGE, Int.reduceNe, Int.cast_ofNat_Int, Int.natCast_zero, Int.natCast_one, bne_self_eq_false, gt_iff_lt, ge_iff_le, Int.lt_irrefl, Int.le_refl, u1, u2, e1]
          first | refine call_k W2 ?_ | refine call_d W2 ?_
          simp -implicitDefEqProofs only [go_sem, reduceIte, Nat.reduceAdd, Nat.reduceSub, Nat.reduceMul, Nat.reduceLT, Nat.reduceLeDiff, Nat.reduceEqDiff, Nat.reduceBEq, Int.reduceLE, Int.reduceLT, Int.reduceToNat, Int.reduceMul, Int.reduceAdd, Int.reduceSub, Int.reduceNeg, Int.reduceEq, reduceCtorEq, Nat.reduceMod, Int.reduceBNe, Int.reduceBEq, Int.reduceGT, Int.reduceGE, Int.reduceNe, Int.cast_ofNat_Int, Int.natCast_zero, Int.natCast_one, bne_self_eq_false, gt_iff_lt, ge_iff_le, Int.lt_irrefl, Int.le_refl, u1, u2, e1, v1]
          first | refine call_k S1 ?_ | refine call_d S1 ?_
          simp -implicitDefEqProofs only [go_sem, reduceIte, Nat.reduceAdd, Nat.reduceSub, Nat.reduceMul, Nat.reduceLT, Nat.reduceLeDiff, Nat.reduceEqDiff, Nat.reduceBEq, Int.reduceLE, Int.reduceLT, Int.reduceToNat, Int.reduceMul, Int.reduceAdd, Int.reduceSub, Int.reduceNeg, Int.reduceEq, reduceCtorEq, Nat.reduceMod, Int.reduceBNe, Int.reduceBEq, Int.reduceGT, Int.reduceGE, Int.reduceNe, Int.cast_ofNat_Int, Int.natCast_zero, Int.natCast_one, bne_self_eq_false, gt_iff_lt, ge_iff_le, Int.lt_irrefl, Int.le_refl, u1, u2, u3, e1, v1, v2, eqC8]
          refine ⟨⟨by omega, .inr (okEs_bT b)⟩, ?_⟩
          first | refine call_k B1 ?_ | refine call_d B1 ?_
          simp -implicitDefEqProofs only [go_sem, reduceIte, Nat.reduceAdd, Nat.reduceSub, Nat.reduceMul, Nat.reduceLT, Nat.reduceLeDiff, Nat.reduceEqDiff, Nat.reduceBEq, Int.reduceLE, Int.reduceLT, Int.reduceToNat, Int.reduceMul, Int.reduceAdd, Int.reduceSub, Int.reduceNeg, Int.reduceEq, reduceCtorEq, Nat.reduceMod, Int.reduceBNe, Int.reduceBEq, Int.reduceGT, Int.reduceGE, Int.reduceNe, Int.cast_ofNat_Int, Int.natCast_zero, Int.natCast_one, bne_self_eq_false, gt_iff_lt, ge_iff_le, Int.lt_irrefl, Int.le_refl, u1, u2, u3, e1, v1, v2]
          first | refine call_k F ?_ | refine call_d F ?_
          simp -implicitDefEqProofs only [go_sem, reduceIte, Nat.reduceAdd, Nat.reduceSub, Nat.reduceMul, Nat.reduceLT, Nat.reduceLeDiff, Nat.reduceEqDiff, Nat.reduceBEq, Int.reduceLE, Int.reduceLT, Int.reduceToNat, Int.reduceMul, Int.reduceAdd, Int.reduceSub, Int.reduceNeg, Int.reduceEq, reduceCtorEq, Nat.reduceMod, Int.reduceBNe, Int.reduceBEq, Int.reduceGT, Int.reduceGE, Int.reduceNe, Int.cast_ofNat_Int, Int.natCast_zero, Int.natCast_one, bne_self_eq_false, gt_iff_lt, ge_iff_le, Int.lt_irrefl, Int.le_refl, bN_map, hd, bC_take hd, u2, u3]
          refine ⟨bC_one _, ?_⟩
          refine ⟨⟨by omega, .inr (okEs_bT b)⟩, ?_⟩
          first | refine call_k W3 ?_ | refine call_d W3 ?_
          simp -implicitDefEqProofs only [go_sem, reduceIte, Nat.reduceAdd, Nat.reduceSub, Nat.reduceMul, Nat.reduceLT, Nat.reduceLeDiff, Nat.reduceEqDiff, Nat.reduceBEq, Int.reduceLE, Int.reduceLT, Int.reduceToNat, Int.reduceMul, Int.reduceAdd, Int.reduceSub, Int.reduceNeg, Int.reduceEq, reduceCtorEq, Nat.reduceMod, Int.reduceBNe, Int.reduceBEq, Int.reduceGT, Int.reduceGE, Int.reduceNe, Int.cast_ofNat_Int, Int.natCast_zero, Int.natCast_one, bne_self_eq_false, gt_iff_lt, ge_iff_le, Int.lt_irrefl, Int.le_refl, bN_map, hd, bC_take hd, u2, u3]
          first | refine call_k F ?_ | refine call_d F ?_
          simp -implicitDefEqProofs only [go_sem, reduceIte, Nat.reduceAdd, Nat.reduceSub, Nat.reduceMul, Nat.reduceLT, Nat.reduceLeDiff, Nat.reduceEqDiff, Nat.reduceBEq, Int.reduceLE, Int.reduceLT, Int.reduceToNat, Int.reduceMul, Int.reduceAdd, Int.reduceSub, Int.reduceNeg, Int.reduceEq, reduceCtorEq, Nat.reduceMod, Int.reduceBNe, Int.reduceBEq, Int.reduceGT, Int.reduceGE, Int.reduceNe, Int.cast_ofNat_Int, Int.natCast_zero, Int.natCast_one, bne_self_eq_false, gt_iff_lt, ge_iff_le, Int.lt_irrefl, Int.le_refl, bN_map, hd, bC_take hd, plains_bC, eqCells_bN _ _ rfl]
          refine ⟨bC_one _, ?_⟩
          refine ⟨⟨by rw [bN_len, hd], bN_isI _⟩, ?_⟩
          first | refine call_k s_alive ?_ | refine call_d s_alive ?_
          simp -implicitDefEqProofs only [go_sem, reduceIte, Nat.reduceAdd, Nat.reduceSub, Nat.reduceMul, Nat.reduceLT, Nat.reduceLeDiff, Nat.reduceEqDiff, Nat.reduceBEq, Int.reduceLE, Int.reduceLT, Int.reduceToNat, Int.reduceMul, Int.reduceAdd, Int.reduceSub, Int.reduceNeg, Int.reduceEq, reduceCtorEq, Nat.reduceMod, Int.reduceBNe, Int.reduceBEq, Int.reduceGT, Int.reduceGE, Int.reduceNe, Int.cast_ofNat_Int, Int.natCast_zero, Int.natCast_one, bne_self_eq_false, gt_iff_lt, ge_iff_le, Int.lt_irrefl, Int.le_refl]
      · have hb' : ((1000 : Int) < (b.length : Int)) = True := eq_true (by omega)
        simp -implicitDefEqProofs only [go_sem, reduceIte, Nat.reduceAdd, Nat.reduceSub, Nat.reduceMul, Nat.reduceLT, Nat.reduceLeDiff, Nat.reduceEqDiff, Nat.reduceBEq, Int.reduceLE, Int.reduceLT, Int.reduceToNat, Int.reduceMul, Int.reduceAdd, Int.reduceSub, Int.reduceNeg, Int.reduceEq, reduceCtorEq, Nat.reduceMod, Int.reduceBNe, Int.reduceBEq, Int.reduceGT, Int.reduceGE, Int.reduceNe, Int.cast_ofNat_Int, Int.natCast_zero, Int.natCast_one, bne_self_eq_false, gt_iff_lt, ge_iff_le, Int.lt_irrefl, Int.le_refl, h0', h1', hb']
        first | refine call_k s_alive ?_ | refine call_d s_alive ?_
        simp -implicitDefEqProofs only [go_sem, reduceIte, Nat.reduceAdd, Nat.reduceSub, Nat.reduceMul, Nat.reduceLT, Nat.reduceLeDiff, Nat.reduceEqDiff, Nat.reduceBEq, Int.reduceLE, Int.reduceLT, Int.reduceToNat, Int.reduceMul, Int.reduceAdd, Int.reduceSub, Int.reduceNeg, Int.reduceEq, reduceCtorEq, Nat.reduceMod, Int.reduceBNe, Int.reduceBEq, Int.reduceGT, Int.reduceGE, Int.reduceNe, Int.cast_ofNat_Int, Int.natCast_zero, Int.natCast_one, bne_self_eq_false, gt_iff_lt, ge_iff_le, Int.lt_irrefl, Int.le_refl]
    · have h1' : (1000 < k) = True := eq_true (by omega)
      simp -implicitDefEqProofs only [go_sem, reduceIte, Nat.reduceAdd, Nat.reduceSub, Nat.reduceMul, Nat.reduceLT, Nat.reduceLeDiff, Nat.reduceEqDiff, Nat.reduceBEq, Int.reduceLE, Int.reduceLT, Int.reduceToNat, Int.reduceMul, Int.reduceAdd, Int.reduceSub, Int.reduceNeg, Int.reduceEq, reduceCtorEq, Nat.reduceMod, Int.reduceBNe, Int.reduceBEq, Int.reduceGT, Int.reduceGE, Int.reduceNe, Int.cast_ofNat_Int, Int.natCast_zero, Int.natCast_one, bne_self_eq_false, gt_iff_lt, ge_iff_le, Int.lt_irrefl, Int.le_refl, h0', h1']
      first | refine call_k s_alive ?_ | refine call_d s_alive ?_
      simp -implicitDefEqProofs only [go_sem, reduceIte, Nat.reduceAdd, Nat.reduceSub, Nat.reduceMul, Nat.reduceLT, Nat.reduceLeDiff, Nat.reduceEqDiff, Nat.reduceBEq, Int.reduceLE, Int.reduceLT, Int.reduceToNat, Int.reduceMul, Int.reduceAdd, Int.reduceSub, Int.reduceNeg, Int.reduceEq, reduceCtorEq, Nat.reduceMod, Int.reduceBNe, Int.reduceBEq, Int.reduceGT, Int.reduceGE, Int.reduceNe, Int.cast_ofNat_Int, Int.natCast_zero, Int.natCast_one, bne_self_eq_false, gt_iff_lt, ge_iff_le, Int.lt_irrefl, Int.le_refl]
  · have h0' : (k < 0) = True := eq_true (by omega)
    simp -implicitDefEqProofs only [go_sem, reduceIte, Nat.reduceAdd, Nat.reduceSub, Nat.reduceMul, Nat.reduceLT, Nat.reduceLeDiff, Nat.reduceEqDiff, Nat.reduceBEq, Int.reduceLE, Int.reduceLT, Int.reduceToNat, Int.reduceMul, Int.reduceAdd, Int.reduceSub, Int.reduceNeg, Int.reduceEq, reduceCtorEq, Nat.reduceMod, Int.reduceBNe, Int.reduceBEq, Int.reduceGT, Int.reduceGE, Int.reduceNe, Int.cast_ofNat_Int, Int.natCast_zero, Int.natCast_one, bne_self_eq_false, gt_iff_lt, ge_iff_le, Int.lt_irrefl, Int.le_refl, h0']
    first | refine call_k s_alive ?_ | refine call_d s_alive ?_
    simp -implicitDefEqProofs only [go_sem, reduceIte, Nat.reduceAdd, Nat.reduceSub, Nat.reduceMul, Nat.reduceLT, Nat.reduceLeDiff, Nat.reduceEqDiff, Nat.reduceBEq, Int.reduceLE, Int.reduceLT, Int.reduceToNat, Int.reduceMul, Int.reduceAdd, Int.reduceSub, Int.reduceNeg, Int.reduceEq, reduceCtorEq, Nat.reduceMod, Int.reduceBNe, Int.reduceBEq, Int.reduceGT, Int.reduceGE, Int.reduceNe, Int.cast_ofNat_Int, Int.natCast_zero, Int.natCast_one, bne_self_eq_false, gt_iff_lt, ge_iff_le, Int.lt_irrefl, Int.le_refl]
end Go.Proofs.YtgkmhmhbepfiaaaDoor.Pm
