/- ShaNames. -/
import Derived.Test.YtgkmhmhbepfiaaaDoorPmHo
set_option linter.all false
set_option maxRecDepth 100000
set_option maxHeartbeats 2000000
namespace Go.Proofs.YtgkmhmhbepfiaaaDoor.Pm
open Go Go.RowKit

theorem zT (n : Nat) : List.replicate n [T.i .u8 0] = bT (List.replicate n 0#8) := by simp [bT]
def longB : List (BitVec 8) := [97#8, 98#8, 99#8, 100#8, 98#8, 99#8, 100#8, 101#8, 99#8, 100#8, 101#8, 102#8, 100#8, 101#8, 102#8, 103#8, 101#8, 102#8, 103#8, 104#8, 102#8, 103#8, 104#8, 105#8, 103#8, 104#8, 105#8, 106#8, 104#8, 105#8, 106#8, 107#8, 105#8, 106#8, 107#8, 108#8, 106#8, 107#8, 108#8, 109#8, 107#8, 108#8, 109#8, 110#8, 108#8, 109#8, 110#8, 111#8, 109#8, 110#8, 111#8, 112#8, 110#8, 111#8, 112#8, 113#8]
theorem isLong : Spec Tryd.prog 26 [.s ⟨#[97, 98, 99, 100, 98, 99, 100, 101, 99, 100, 101, 102, 100, 101, 102, 103, 101, 102, 103, 104, 102, 103, 104, 105, 103, 104, 105, 106, 104, 105, 106, 107, 105, 106, 107, 108, 106, 107, 108, 109, 107, 108, 109, 110, 108, 109, 110, 111, 109, 110, 111, 112, 110, 111, 112, 113]⟩, .i .u8 36, .i .u8 141, .i .u8 106, .i .u8 97, .i .u8 193] [] (.t (.b true) true) :=
  s_law08_is _ longB rfl (by decide) (by decide) 36#8 141#8 106#8 97#8 193#8 (by decide +kernel) (by decide +kernel) (by decide +kernel) (by decide +kernel) (by decide +kernel)
theorem padM_len : (padR 1000000).length = 64 := by decide +kernel
theorem padM61 : (bT (padR 1000000))[61]? = some [.i .u8 122] := by rw [show padR 1000000 = 128#8 :: (List.replicate 60 0#8 ++ [122#8, 18#8, 0#8]) by decide +kernel]; rfl
theorem padM62 : (bT (padR 1000000))[62]? = some [.i .u8 18] := by rw [show padR 1000000 = 128#8 :: (List.replicate 60 0#8 ++ [122#8, 18#8, 0#8]) by decide +kernel]; rfl
theorem padM63 : (bT (padR 1000000))[63]? = some [.i .u8 0] := by rw [show padR 1000000 = 128#8 :: (List.replicate 60 0#8 ++ [122#8, 18#8, 0#8]) by decide +kernel]; rfl
theorem pad0_len : (padR 0).length = 64 := by decide +kernel
theorem pad0_63 : (bT (padR 0))[63]? = some [.i .u8 0] := by rw [show padR 0 = 128#8 :: (List.replicate 63 0#8) by decide +kernel]; rfl
theorem s_SumM : Spec Tryd.prog 14 [.sl (bT (List.replicate 1000001 0#8))] [] (.tup [.t (.agg (bN (List.replicate 32 0#8))) true, .t (.i .i64 4) true]) := by
  have h := s_sha_Sum (List.replicate 1000001 0#8)
  have hn : ¬ (List.replicate 1000001 0#8).length ≤ 1000000 := by rw [List.length_replicate]; omega
  rw [show sumV (List.replicate 1000001 0#8) = List.replicate 32 0#8 from if_neg hn, show sumE (List.replicate 1000001 0#8) = 4 from if_neg hn] at h
  exact h
theorem s_BlockB (w : H8) (n : Nat) (hn : n ≠ 64) : Spec Tryd.prog 18 [.agg w.cells, .sl (bT (List.replicate n 0#8))] [] (.tup [.t (.agg H8.zero.cells) true, .t (.i .i64 2) true]) := by
  have h := s_sha_Block w (List.replicate n 0#8)
  have hb : ¬ (List.replicate n 0#8).length = 64 := by rw [List.length_replicate]; exact hn
  rw [show blockV w (List.replicate n 0#8) = H8.zero from if_neg hb, show blockE (List.replicate n 0#8) = 2 from if_neg hb] at h
  exact h
theorem s_WriteB (h : HV) (b : List (BitVec 8)) (hk : h.ok = false) : Spec Tryd.prog 23 [.agg h.cells, .sl (bT b)] [] (.tup [.t (.agg HV.zero.cells) true, .t (.i .i64 8) true]) := by
  have q := s_sha_Write h b
  rw [show h.write b = HV.zero by unfold HV.write; rw [if_neg (by rw [hk]; decide)], show h.writeE b = 8 by unfold HV.writeE; rw [if_neg (by rw [hk]; decide)]] at q
  exact q
theorem s_WriteM (h : HV) (b : List (BitVec 8)) (hk : h.ok = true) (hb : ¬ (b.length : Int) ≤ 1000000 - h.n) : Spec Tryd.prog 23 [.agg h.cells, .sl (bT b)] [] (.tup [.t (.agg HV.zero.cells) true, .t (.i .i64 4) true]) := by
  have q := s_sha_Write h b
  rw [show h.write b = HV.zero by unfold HV.write; rw [if_pos hk, if_neg hb], show h.writeE b = 4 by unfold HV.writeE; rw [if_pos hk, if_neg hb]] at q
  exact q
theorem s_FinishB (h : HV) (hk : h.ok = false) : Spec Tryd.prog 24 [.agg h.cells] [] (.tup [.t (.agg (bN (List.replicate 32 0#8))) true, .t (.i .i64 8) true]) := by
  have q := s_sha_Finish h
  rw [show h.finish = List.replicate 32 0#8 from if_neg (by rw [hk]; decide), show h.finishE = 8 from if_neg (by rw [hk]; decide)] at q
  exact q
def hN (n : Int) (r : List (BitVec 8)) : HV := ⟨H8.zero, r, n⟩
theorem z_a : ((H8.zero.a.toNat : Nat) : Int) = 0 := rfl
theorem z_b : ((H8.zero.b.toNat : Nat) : Int) = 0 := rfl
theorem z_c : ((H8.zero.c.toNat : Nat) : Int) = 0 := rfl
theorem z_d : ((H8.zero.d.toNat : Nat) : Int) = 0 := rfl
theorem z_e : ((H8.zero.e.toNat : Nat) : Int) = 0 := rfl
theorem z_f : ((H8.zero.f.toNat : Nat) : Int) = 0 := rfl
theorem z_g : ((H8.zero.g.toNat : Nat) : Int) = 0 := rfl
theorem z_h : ((H8.zero.h.toNat : Nat) : Int) = 0 := rfl
theorem hN_w (n : Int) (r : List (BitVec 8)) : (hN n r).w = H8.zero := rfl
theorem hN_r (n : Int) (r : List (BitVec 8)) : (hN n r).r = r := rfl
theorem hN_n (n : Int) (r : List (BitVec 8)) : (hN n r).n = n := rfl
theorem hz_w : HV.zero.w = H8.zero := rfl
theorem hz_r : HV.zero.r = [] := rfl
theorem hz_n : HV.zero.n = 0 := rfl
theorem bT_nil : bT [] = [] := rfl
attribute [go_sem] z_a z_b z_c z_d z_e z_f z_g z_h hN_w hN_r hN_n hz_w hz_r hz_n bT_nil
theorem tz (n : Nat) : List.take n (bT (List.replicate n 0#8)) = bT (List.replicate n 0#8) := List.take_of_length_le (by rw [bT_length, List.length_replicate]; exact Nat.le_refl _)
theorem fullH : ∃ x : HV, (hN 999936 []).put (List.replicate 64 0#8) = x ∧ x.n = 1000000 ∧ x.r = [] := by
  refine ⟨_, rfl, ?_, ?_⟩
  · simp only [HV.put, hN, List.length_replicate]
    rfl
  · simp only [HV.put, hN, List.nil_append]
    exact restV_nil (by rw [List.length_replicate])
theorem s_law08_ShaNames : Spec Tryd.prog 6 [] [] (.t (.b true) true) := by
  refine spec_k (hold mixed) b_law08_ShaNames [(.b true, true)] ?_
  simp -implicitDefEqProofs only [go_sem, reduceIte, Nat.reduceAdd, Nat.reduceSub, Nat.reduceMul, Nat.reduceLT, Nat.reduceLeDiff, Nat.reduceEqDiff, Nat.reduceBEq, Int.reduceLE, Int.reduceLT, Int.reduceToNat, Int.reduceMul, Int.reduceAdd, Int.reduceSub, Int.reduceNeg, Int.reduceEq, reduceCtorEq, Nat.reduceMod, Int.reduceBNe, Int.reduceBEq, Int.reduceGT, Int.reduceGE, Int.reduceNe, Int.cast_ofNat_Int, Int.natCast_zero, Int.natCast_one, bne_self_eq_false, gt_iff_lt, ge_iff_le, Int.lt_irrefl, Int.le_refl]
  first | refine call_k isLong ?_ | refine call_d isLong ?_
  simp -implicitDefEqProofs only [go_sem, reduceIte, Nat.reduceAdd, Nat.reduceSub, Nat.reduceMul, Nat.reduceLT, Nat.reduceLeDiff, Nat.reduceEqDiff, Nat.reduceBEq, Int.reduceLE, Int.reduceLT, Int.reduceToNat, Int.reduceMul, Int.reduceAdd, Int.reduceSub, Int.reduceNeg, Int.reduceEq, reduceCtorEq, Nat.reduceMod, Int.reduceBNe, Int.reduceBEq, Int.reduceGT, Int.reduceGE, Int.reduceNe, Int.cast_ofNat_Int, Int.natCast_zero, Int.natCast_one, bne_self_eq_false, gt_iff_lt, ge_iff_le, Int.lt_irrefl, Int.le_refl, zT]
  refine ⟨by unfold room; omega, ?_⟩
  refine call_k s_SumM ?_ (by simp -implicitDefEqProofs only [go_sem, reduceIte, Nat.reduceAdd, Nat.reduceSub, Nat.reduceMul, Nat.reduceLT, Nat.reduceLeDiff, Nat.reduceEqDiff, Nat.reduceBEq, Int.reduceLE, Int.reduceLT, Int.reduceToNat, Int.reduceMul, Int.reduceAdd, Int.reduceSub, Int.reduceNeg, Int.reduceEq, reduceCtorEq, Nat.reduceMod, Int.reduceBNe, Int.reduceBEq, Int.reduceGT, Int.reduceGE, Int.reduceNe, Int.cast_ofNat_Int, Int.natCast_zero, Int.natCast_one, bne_self_eq_false, gt_iff_lt, ge_iff_le, Int.lt_irrefl, Int.le_refl, List.length_replicate]; exact List.take_of_length_le (by rw [bT_length, List.length_replicate]; exact Nat.le_refl _))
  simp -implicitDefEqProofs only [go_sem, reduceIte, Nat.reduceAdd, Nat.reduceSub, Nat.reduceMul, Nat.reduceLT, Nat.reduceLeDiff, Nat.reduceEqDiff, Nat.reduceBEq, Int.reduceLE, Int.reduceLT, Int.reduceToNat, Int.reduceMul, Int.reduceAdd, Int.reduceSub, Int.reduceNeg, Int.reduceEq, reduceCtorEq, Nat.reduceMod, Int.reduceBNe, Int.reduceBEq, Int.reduceGT, Int.reduceGE, Int.reduceNe, Int.cast_ofNat_Int, Int.natCast_zero, Int.natCast_one, bne_self_eq_false, gt_iff_lt, ge_iff_le, Int.lt_irrefl, Int.le_refl, bN_zero]
  first | refine call_k (s_sha_Pad (-1)) ?_ | refine call_d (s_sha_Pad (-1)) ?_
  simp -implicitDefEqProofs only [go_sem, reduceIte, Nat.reduceAdd, Nat.reduceSub, Nat.reduceMul, Nat.reduceLT, Nat.reduceLeDiff, Nat.reduceEqDiff, Nat.reduceBEq, Int.reduceLE, Int.reduceLT, Int.reduceToNat, Int.reduceMul, Int.reduceAdd, Int.reduceSub, Int.reduceNeg, Int.reduceEq, reduceCtorEq, Nat.reduceMod, Int.reduceBNe, Int.reduceBEq, Int.reduceGT, Int.reduceGE, Int.reduceNe, Int.cast_ofNat_Int, Int.natCast_zero, Int.natCast_one, bne_self_eq_false, gt_iff_lt, ge_iff_le, Int.lt_irrefl, Int.le_refl, show padE (-1) = 2 from rfl]
  first | refine call_k (s_sha_Pad 1000001) ?_ | refine call_d (s_sha_Pad 1000001) ?_
  simp -implicitDefEqProofs only [go_sem, reduceIte, Nat.reduceAdd, Nat.reduceSub, Nat.reduceMul, Nat.reduceLT, Nat.reduceLeDiff, Nat.reduceEqDiff, Nat.reduceBEq, Int.reduceLE, Int.reduceLT, Int.reduceToNat, Int.reduceMul, Int.reduceAdd, Int.reduceSub, Int.reduceNeg, Int.reduceEq, reduceCtorEq, Nat.reduceMod, Int.reduceBNe, Int.reduceBEq, Int.reduceGT, Int.reduceGE, Int.reduceNe, Int.cast_ofNat_Int, Int.natCast_zero, Int.natCast_one, bne_self_eq_false, gt_iff_lt, ge_iff_le, Int.lt_irrefl, Int.le_refl, show padE 1000001 = 2 from rfl]
  first | refine call_k (s_sha_Pad 1000000) ?_ | refine call_d (s_sha_Pad 1000000) ?_
  simp -implicitDefEqProofs only [go_sem, reduceIte, Nat.reduceAdd, Nat.reduceSub, Nat.reduceMul, Nat.reduceLT, Nat.reduceLeDiff, Nat.reduceEqDiff, Nat.reduceBEq, Int.reduceLE, Int.reduceLT, Int.reduceToNat, Int.reduceMul, Int.reduceAdd, Int.reduceSub, Int.reduceNeg, Int.reduceEq, reduceCtorEq, Nat.reduceMod, Int.reduceBNe, Int.reduceBEq, Int.reduceGT, Int.reduceGE, Int.reduceNe, Int.cast_ofNat_Int, Int.natCast_zero, Int.natCast_one, bne_self_eq_false, gt_iff_lt, ge_iff_le, Int.lt_irrefl, Int.le_refl, show padE 1000000 = 0 from rfl]
  first | refine call_k (s_sha_Pad 0) ?_ | refine call_d (s_sha_Pad 0) ?_
  simp -implicitDefEqProofs only [go_sem, reduceIte, Nat.reduceAdd, Nat.reduceSub, Nat.reduceMul, Nat.reduceLT, Nat.reduceLeDiff, Nat.reduceEqDiff, Nat.reduceBEq, Int.reduceLE, Int.reduceLT, Int.reduceToNat, Int.reduceMul, Int.reduceAdd, Int.reduceSub, Int.reduceNeg, Int.reduceEq, reduceCtorEq, Nat.reduceMod, Int.reduceBNe, Int.reduceBEq, Int.reduceGT, Int.reduceGE, Int.reduceNe, Int.cast_ofNat_Int, Int.natCast_zero, Int.natCast_one, bne_self_eq_false, gt_iff_lt, ge_iff_le, Int.lt_irrefl, Int.le_refl, show padE 0 = 0 from rfl, zT]
  refine ⟨by unfold room; omega, ?_⟩
  refine call_k (s_BlockB H8.zero 63 (by omega)) ?_ (by simp -implicitDefEqProofs only [go_sem, reduceIte, Nat.reduceAdd, Nat.reduceSub, Nat.reduceMul, Nat.reduceLT, Nat.reduceLeDiff, Nat.reduceEqDiff, Nat.reduceBEq, Int.reduceLE, Int.reduceLT, Int.reduceToNat, Int.reduceMul, Int.reduceAdd, Int.reduceSub, Int.reduceNeg, Int.reduceEq, reduceCtorEq, Nat.reduceMod, Int.reduceBNe, Int.reduceBEq, Int.reduceGT, Int.reduceGE, Int.reduceNe, Int.cast_ofNat_Int, Int.natCast_zero, Int.natCast_one, bne_self_eq_false, gt_iff_lt, ge_iff_le, Int.lt_irrefl, Int.le_refl, List.length_replicate]; exact tz _)
  simp -implicitDefEqProofs only [go_sem, reduceIte, Nat.reduceAdd, Nat.reduceSub, Nat.reduceMul, Nat.reduceLT, Nat.reduceLeDiff, Nat.reduceEqDiff, Nat.reduceBEq, Int.reduceLE, Int.reduceLT, Int.reduceToNat, Int.reduceMul, Int.reduceAdd, Int.reduceSub, Int.reduceNeg, Int.reduceEq, reduceCtorEq, Nat.reduceMod, Int.reduceBNe, Int.reduceBEq, Int.reduceGT, Int.reduceGE, Int.reduceNe, Int.cast_ofNat_Int, Int.natCast_zero, Int.natCast_one, bne_self_eq_false, gt_iff_lt, ge_iff_le, Int.lt_irrefl, Int.le_refl, zT]
  refine ⟨by unfold room; omega, ?_⟩
  refine call_k (s_BlockB H8.zero 65 (by omega)) ?_ (by simp -implicitDefEqProofs only [go_sem, reduceIte, Nat.reduceAdd, Nat.reduceSub, Nat.reduceMul, Nat.reduceLT, Nat.reduceLeDiff, Nat.reduceEqDiff, Nat.reduceBEq, Int.reduceLE, Int.reduceLT, Int.reduceToNat, Int.reduceMul, Int.reduceAdd, Int.reduceSub, Int.reduceNeg, Int.reduceEq, reduceCtorEq, Nat.reduceMod, Int.reduceBNe, Int.reduceBEq, Int.reduceGT, Int.reduceGE, Int.reduceNe, Int.cast_ofNat_Int, Int.natCast_zero, Int.natCast_one, bne_self_eq_false, gt_iff_lt, ge_iff_le, Int.lt_irrefl, Int.le_refl, List.length_replicate]; exact tz _)
  simp -implicitDefEqProofs only [go_sem, reduceIte, Nat.reduceAdd, Nat.reduceSub, Nat.reduceMul, Nat.reduceLT, Nat.reduceLeDiff, Nat.reduceEqDiff, Nat.reduceBEq, Int.reduceLE, Int.reduceLT, Int.reduceToNat, Int.reduceMul, Int.reduceAdd, Int.reduceSub, Int.reduceNeg, Int.reduceEq, reduceCtorEq, Nat.reduceMod, Int.reduceBNe, Int.reduceBEq, Int.reduceGT, Int.reduceGE, Int.reduceNe, Int.cast_ofNat_Int, Int.natCast_zero, Int.natCast_one, bne_self_eq_false, gt_iff_lt, ge_iff_le, Int.lt_irrefl, Int.le_refl, zT]
  refine call_k (s_WriteB (hN (-64) []) [] (by decide)) ?_
  simp -implicitDefEqProofs only [go_sem, reduceIte, Nat.reduceAdd, Nat.reduceSub, Nat.reduceMul, Nat.reduceLT, Nat.reduceLeDiff, Nat.reduceEqDiff, Nat.reduceBEq, Int.reduceLE, Int.reduceLT, Int.reduceToNat, Int.reduceMul, Int.reduceAdd, Int.reduceSub, Int.reduceNeg, Int.reduceEq, reduceCtorEq, Nat.reduceMod, Int.reduceBNe, Int.reduceBEq, Int.reduceGT, Int.reduceGE, Int.reduceNe, Int.cast_ofNat_Int, Int.natCast_zero, Int.natCast_one, bne_self_eq_false, gt_iff_lt, ge_iff_le, Int.lt_irrefl, Int.le_refl, zT]
  refine call_k (s_WriteB (hN 1 []) [] (by decide)) ?_
  simp -implicitDefEqProofs only [go_sem, reduceIte, Nat.reduceAdd, Nat.reduceSub, Nat.reduceMul, Nat.reduceLT, Nat.reduceLeDiff, Nat.reduceEqDiff, Nat.reduceBEq, Int.reduceLE, Int.reduceLT, Int.reduceToNat, Int.reduceMul, Int.reduceAdd, Int.reduceSub, Int.reduceNeg, Int.reduceEq, reduceCtorEq, Nat.reduceMod, Int.reduceBNe, Int.reduceBEq, Int.reduceGT, Int.reduceGE, Int.reduceNe, Int.cast_ofNat_Int, Int.natCast_zero, Int.natCast_one, bne_self_eq_false, gt_iff_lt, ge_iff_le, Int.lt_irrefl, Int.le_refl, zT]
  refine ⟨by unfold room; omega, ?_⟩
  refine call_k (s_WriteB (hN 64 (List.replicate 64 0#8)) [] (by decide)) ?_ (by simp -implicitDefEqProofs only [go_sem, reduceIte, Nat.reduceAdd, Nat.reduceSub, Nat.reduceMul, Nat.reduceLT, Nat.reduceLeDiff, Nat.reduceEqDiff, Nat.reduceBEq, Int.reduceLE, Int.reduceLT, Int.reduceToNat, Int.reduceMul, Int.reduceAdd, Int.reduceSub, Int.reduceNeg, Int.reduceEq, reduceCtorEq, Nat.reduceMod, Int.reduceBNe, Int.reduceBEq, Int.reduceGT, Int.reduceGE, Int.reduceNe, Int.cast_ofNat_Int, Int.natCast_zero, Int.natCast_one, bne_self_eq_false, gt_iff_lt, ge_iff_le, Int.lt_irrefl, Int.le_refl, List.length_replicate]; exact tz _)
  simp -implicitDefEqProofs only [go_sem, reduceIte, Nat.reduceAdd, Nat.reduceSub, Nat.reduceMul, Nat.reduceLT, Nat.reduceLeDiff, Nat.reduceEqDiff, Nat.reduceBEq, Int.reduceLE, Int.reduceLT, Int.reduceToNat, Int.reduceMul, Int.reduceAdd, Int.reduceSub, Int.reduceNeg, Int.reduceEq, reduceCtorEq, Nat.reduceMod, Int.reduceBNe, Int.reduceBEq, Int.reduceGT, Int.reduceGE, Int.reduceNe, Int.cast_ofNat_Int, Int.natCast_zero, Int.natCast_one, bne_self_eq_false, gt_iff_lt, ge_iff_le, Int.lt_irrefl, Int.le_refl]
  refine call_k (s_WriteM (hN 1000000 []) [1#8] (by decide) (by decide)) ?_ (by simp -implicitDefEqProofs only [go_sem, reduceIte, Nat.reduceAdd, Nat.reduceSub, Nat.reduceMul, Nat.reduceLT, Nat.reduceLeDiff, Nat.reduceEqDiff, Nat.reduceBEq, Int.reduceLE, Int.reduceLT, Int.reduceToNat, Int.reduceMul, Int.reduceAdd, Int.reduceSub, Int.reduceNeg, Int.reduceEq, reduceCtorEq, Nat.reduceMod, Int.reduceBNe, Int.reduceBEq, Int.reduceGT, Int.reduceGE, Int.reduceNe, Int.cast_ofNat_Int, Int.natCast_zero, Int.natCast_one, bne_self_eq_false, gt_iff_lt, ge_iff_le, Int.lt_irrefl, Int.le_refl]; rfl)
  simp -implicitDefEqProofs only [go_sem, reduceIte, Nat.reduceAdd, Nat.reduceSub, Nat.reduceMul, Nat.reduceLT, Nat.reduceLeDiff, Nat.reduceEqDiff, Nat.reduceBEq, Int.reduceLE, Int.reduceLT, Int.reduceToNat, Int.reduceMul, Int.reduceAdd, Int.reduceSub, Int.reduceNeg, Int.reduceEq, reduceCtorEq, Nat.reduceMod, Int.reduceBNe, Int.reduceBEq, Int.reduceGT, Int.reduceGE, Int.reduceNe, Int.cast_ofNat_Int, Int.natCast_zero, Int.natCast_one, bne_self_eq_false, gt_iff_lt, ge_iff_le, Int.lt_irrefl, Int.le_refl, zT]
  refine ⟨by unfold room; omega, ?_⟩
  refine call_k (s_WriteM (hN 999936 []) (List.replicate 65 0#8) (by decide) (by rw [List.length_replicate]; decide)) ?_ (by simp -implicitDefEqProofs only [go_sem, reduceIte, Nat.reduceAdd, Nat.reduceSub, Nat.reduceMul, Nat.reduceLT, Nat.reduceLeDiff, Nat.reduceEqDiff, Nat.reduceBEq, Int.reduceLE, Int.reduceLT, Int.reduceToNat, Int.reduceMul, Int.reduceAdd, Int.reduceSub, Int.reduceNeg, Int.reduceEq, reduceCtorEq, Nat.reduceMod, Int.reduceBNe, Int.reduceBEq, Int.reduceGT, Int.reduceGE, Int.reduceNe, Int.cast_ofNat_Int, Int.natCast_zero, Int.natCast_one, bne_self_eq_false, gt_iff_lt, ge_iff_le, Int.lt_irrefl, Int.le_refl, List.length_replicate]; exact tz _)
  simp -implicitDefEqProofs only [go_sem, reduceIte, Nat.reduceAdd, Nat.reduceSub, Nat.reduceMul, Nat.reduceLT, Nat.reduceLeDiff, Nat.reduceEqDiff, Nat.reduceBEq, Int.reduceLE, Int.reduceLT, Int.reduceToNat, Int.reduceMul, Int.reduceAdd, Int.reduceSub, Int.reduceNeg, Int.reduceEq, reduceCtorEq, Nat.reduceMod, Int.reduceBNe, Int.reduceBEq, Int.reduceGT, Int.reduceGE, Int.reduceNe, Int.cast_ofNat_Int, Int.natCast_zero, Int.natCast_one, bne_self_eq_false, gt_iff_lt, ge_iff_le, Int.lt_irrefl, Int.le_refl, zT]
  refine ⟨by unfold room; omega, ?_⟩
  have hW := s_Write' (hN 999936 []) (List.replicate 64 0#8) (by decide) (by rw [List.length_replicate]; decide)
  obtain ⟨x, hx, hxn, hxr⟩ := fullH
  rw [hx] at hW
  refine call_k hW ?_ (by simp -implicitDefEqProofs only [go_sem, reduceIte, Nat.reduceAdd, Nat.reduceSub, Nat.reduceMul, Nat.reduceLT, Nat.reduceLeDiff, Nat.reduceEqDiff, Nat.reduceBEq, Int.reduceLE, Int.reduceLT, Int.reduceToNat, Int.reduceMul, Int.reduceAdd, Int.reduceSub, Int.reduceNeg, Int.reduceEq, reduceCtorEq, Nat.reduceMod, Int.reduceBNe, Int.reduceBEq, Int.reduceGT, Int.reduceGE, Int.reduceNe, Int.cast_ofNat_Int, Int.natCast_zero, Int.natCast_one, bne_self_eq_false, gt_iff_lt, ge_iff_le, Int.lt_irrefl, Int.le_refl, List.length_replicate]; exact tz _)
  simp -implicitDefEqProofs only [go_sem, reduceIte, Nat.reduceAdd, Nat.reduceSub, Nat.reduceMul, Nat.reduceLT, Nat.reduceLeDiff, Nat.reduceEqDiff, Nat.reduceBEq, Int.reduceLE, Int.reduceLT, Int.reduceToNat, Int.reduceMul, Int.reduceAdd, Int.reduceSub, Int.reduceNeg, Int.reduceEq, reduceCtorEq, Nat.reduceMod, Int.reduceBNe, Int.reduceBEq, Int.reduceGT, Int.reduceGE, Int.reduceNe, Int.cast_ofNat_Int, Int.natCast_zero, Int.natCast_one, bne_self_eq_false, gt_iff_lt, ge_iff_le, Int.lt_irrefl, Int.le_refl]
  refine call_k (s_FinishB (hN 1000064 []) (by decide)) ?_
  simp -implicitDefEqProofs only [go_sem, reduceIte, Nat.reduceAdd, Nat.reduceSub, Nat.reduceMul, Nat.reduceLT, Nat.reduceLeDiff, Nat.reduceEqDiff, Nat.reduceBEq, Int.reduceLE, Int.reduceLT, Int.reduceToNat, Int.reduceMul, Int.reduceAdd, Int.reduceSub, Int.reduceNeg, Int.reduceEq, reduceCtorEq, Nat.reduceMod, Int.reduceBNe, Int.reduceBEq, Int.reduceGT, Int.reduceGE, Int.reduceNe, Int.cast_ofNat_Int, Int.natCast_zero, Int.natCast_one, bne_self_eq_false, gt_iff_lt, ge_iff_le, Int.lt_irrefl, Int.le_refl, bN_zero]
  refine call_k (s_FinishB (hN 3 [1#8, 2#8]) (by decide)) ?_ (by simp -implicitDefEqProofs only [go_sem, reduceIte, Nat.reduceAdd, Nat.reduceSub, Nat.reduceMul, Nat.reduceLT, Nat.reduceLeDiff, Nat.reduceEqDiff, Nat.reduceBEq, Int.reduceLE, Int.reduceLT, Int.reduceToNat, Int.reduceMul, Int.reduceAdd, Int.reduceSub, Int.reduceNeg, Int.reduceEq, reduceCtorEq, Nat.reduceMod, Int.reduceBNe, Int.reduceBEq, Int.reduceGT, Int.reduceGE, Int.reduceNe, Int.cast_ofNat_Int, Int.natCast_zero, Int.natCast_one, bne_self_eq_false, gt_iff_lt, ge_iff_le, Int.lt_irrefl, Int.le_refl]; rfl)
  simp -implicitDefEqProofs only [go_sem, reduceIte, Nat.reduceAdd, Nat.reduceSub, Nat.reduceMul, Nat.reduceLT, Nat.reduceLeDiff, Nat.reduceEqDiff, Nat.reduceBEq, Int.reduceLE, Int.reduceLT, Int.reduceToNat, Int.reduceMul, Int.reduceAdd, Int.reduceSub, Int.reduceNeg, Int.reduceEq, reduceCtorEq, Nat.reduceMod, Int.reduceBNe, Int.reduceBEq, Int.reduceGT, Int.reduceGE, Int.reduceNe, Int.cast_ofNat_Int, Int.natCast_zero, Int.natCast_one, bne_self_eq_false, gt_iff_lt, ge_iff_le, Int.lt_irrefl, Int.le_refl, bN_zero, padM_len, padM61, padM62, padM63, pad0_len, pad0_63, hxn, hxr]
  first | refine call_k s_alive ?_ | refine call_d s_alive ?_
  simp -implicitDefEqProofs only [go_sem, reduceIte, Nat.reduceAdd, Nat.reduceSub, Nat.reduceMul, Nat.reduceLT, Nat.reduceLeDiff, Nat.reduceEqDiff, Nat.reduceBEq, Int.reduceLE, Int.reduceLT, Int.reduceToNat, Int.reduceMul, Int.reduceAdd, Int.reduceSub, Int.reduceNeg, Int.reduceEq, reduceCtorEq, Nat.reduceMod, Int.reduceBNe, Int.reduceBEq, Int.reduceGT, Int.reduceGE, Int.reduceNe, Int.cast_ofNat_Int, Int.natCast_zero, Int.natCast_one, bne_self_eq_false, gt_iff_lt, ge_iff_le, Int.lt_irrefl, Int.le_refl]
end Go.Proofs.YtgkmhmhbepfiaaaDoor.Pm
