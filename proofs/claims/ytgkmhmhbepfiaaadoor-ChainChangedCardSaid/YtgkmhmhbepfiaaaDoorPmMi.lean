/- Texts of this proof in one file: PmJn, PmJy, PmJm, PmJw. No law of Go's is stated here. -/
import Derived.Test.YtgkmhmhbepfiaaaDoorPmMh
import Derived.Test.YtgkmhmhbepfiaaaDoorPmJs
set_option linter.all false
set_option maxRecDepth 100000
set_option maxHeartbeats 4000000
namespace Go.Proofs.YtgkmhmhbepfiaaaDoor.Pm
open Go Go.RowKit
theorem s_law44_step (p : List (BitVec 8)) (n : Nat) (d : List (BitVec 8)) (hp : p.length = 32) (hn : n ≤ 1000) (hd : d.length = 32) : Spec Tryd.prog 53 [.agg (bN p), .i .i64 n, .agg (bN d)] [] (.tup [.t (.agg (bN (stepV p n d))) true, .t (.b true) true]) := by
  refine spec_k (hold mixed) b_law44_step [(.agg (bN (stepV p n d)), true), (.b true, true)] ?_
  have tb : List.take 32 (bT p) = bT p := List.take_of_length_le (by rw [bT_length]; omega)
  have tbd : List.take 32 (bT d) = bT d := List.take_of_length_le (by rw [bT_length]; omega)
  have hq : (p ++ b4 n ++ d).length = 68 := by rw [List.length_append, List.length_append, hp, hd, b4_len]
  have hS := s_Sum' (p ++ b4 n ++ d) (by omega)
  have hl := stepV_len p n d
  have hst : ofV (p ++ b4 n ++ d) = stepV p n d := rfl
  rw [hst] at hS
  simp -implicitDefEqProofs only [go_sem, reduceIte, Nat.reduceAdd, Nat.reduceSub, Nat.reduceMul, Nat.reduceLT, Nat.reduceLeDiff, Nat.reduceEqDiff, Nat.reduceBEq, Int.reduceLE, Int.reduceLT, Int.reduceToNat, Int.reduceMul, Int.reduceAdd, Int.reduceSub, Int.reduceNeg, Int.reduceEq, reduceCtorEq, Nat.reduceMod, Int.reduceBNe, Int.reduceBEq, Int.reduceGT, Int.reduceGE, Int.reduceNe, Int.cast_ofNat_Int, Int.natCast_zero, Int.natCast_one, bne_self_eq_false, gt_iff_lt, ge_iff_le, Int.lt_irrefl, Int.le_refl, Nat.reduceDiv, bN_mapF, bF_take hp, bF_take hd, plains_bF32 hp, plains_bF32 hd, hp, hd, room32, tb, tbd, bT_flat, min32, byte_shr, byte_low]
  have hb4 : [[T.i IntKind.u8 (BitVec.ofNat 8 (n / 2 ^ 24)).toNat], [T.i IntKind.u8 (BitVec.ofNat 8 (n / 2 ^ 16)).toNat], [T.i IntKind.u8 (BitVec.ofNat 8 (n / 2 ^ 8)).toNat], [T.i IntKind.u8 (BitVec.ofNat 8 n).toNat]] = bT (b4 n) := rfl
  rw [hb4]
  have h36 : (bT p ++ bT (b4 n)).length = 36 := by rw [List.length_append, bT_length, bT_length, hp, b4_len]
  have t36 : List.take 36 (bT p ++ bT (b4 n)) = bT p ++ bT (b4 n) := List.take_of_length_le (by rw [h36]; exact Nat.le_refl _)
  have hrow : bT p ++ bT (b4 n) ++ bT d = bT (p ++ b4 n ++ d) := by rw [bT_append, bT_append]
  rw [t36, h36, hrow]
  refine ⟨okEs_bT _, ⟨okEs_bT _, by unfold room; omega⟩, ⟨okEs_bT _, Nat.le_refl _, by unfold room; omega⟩, ?_⟩
  first | refine call_k hS ?_ (by simp -implicitDefEqProofs only [go_sem, reduceIte, Nat.reduceAdd, Nat.reduceSub, Nat.reduceMul, Nat.reduceLT, Nat.reduceLeDiff, Nat.reduceEqDiff, Nat.reduceBEq, Int.reduceLE, Int.reduceLT, Int.reduceToNat, Int.reduceMul, Int.reduceAdd, Int.reduceSub, Int.reduceNeg, Int.reduceEq, reduceCtorEq, Nat.reduceMod, Int.reduceBNe, Int.reduceBEq, Int.reduceGT, Int.reduceGE, Int.reduceNe, Int.cast_ofNat_Int, Int.natCast_zero, Int.natCast_one, bne_self_eq_false, gt_iff_lt, ge_iff_le, Int.lt_irrefl, Int.le_refl, Nat.reduceDiv, hq]; exact List.take_of_length_le (by rw [bT_length, hq]; exact Nat.le_refl _)) | refine call_d hS ?_ (by simp -implicitDefEqProofs only [go_sem, reduceIte, Nat.reduceAdd, Nat.reduceSub, Nat.reduceMul, Nat.reduceLT, Nat.reduceLeDiff, Nat.reduceEqDiff, Nat.reduceBEq, Int.reduceLE, Int.reduceLT, Int.reduceToNat, Int.reduceMul, Int.reduceAdd, Int.reduceSub, Int.reduceNeg, Int.reduceEq, reduceCtorEq, Nat.reduceMod, Int.reduceBNe, Int.reduceBEq, Int.reduceGT, Int.reduceGE, Int.reduceNe, Int.cast_ofNat_Int, Int.natCast_zero, Int.natCast_one, bne_self_eq_false, gt_iff_lt, ge_iff_le, Int.lt_irrefl, Int.le_refl, Nat.reduceDiv, hq]; exact List.take_of_length_le (by rw [bT_length, hq]; exact Nat.le_refl _))
  simp -implicitDefEqProofs only [go_sem, reduceIte, Nat.reduceAdd, Nat.reduceSub, Nat.reduceMul, Nat.reduceLT, Nat.reduceLeDiff, Nat.reduceEqDiff, Nat.reduceBEq, Int.reduceLE, Int.reduceLT, Int.reduceToNat, Int.reduceMul, Int.reduceAdd, Int.reduceSub, Int.reduceNeg, Int.reduceEq, reduceCtorEq, Nat.reduceMod, Int.reduceBNe, Int.reduceBEq, Int.reduceGT, Int.reduceGE, Int.reduceNe, Int.cast_ofNat_Int, Int.natCast_zero, Int.natCast_one, bne_self_eq_false, gt_iff_lt, ge_iff_le, Int.lt_irrefl, Int.le_refl, Nat.reduceDiv, bN_map, hl, bC_take hl, embs_bC]
  exact bC_one _
def twoB : List (List (BitVec 8)) := [[97#8], [98#8]]
def lnA : Lnk := ⟨[97#8], stepV z32 0 (ofV [97#8])⟩
def lnB : Lnk := ⟨[98#8], stepV (stepV z32 0 (ofV [97#8])) 1 (ofV [98#8])⟩
def lnC : Lnk := ⟨[99#8], stepV z32 0 (ofV [97#8])⟩
theorem ab_OK : lnOK [lnA, lnB] := mkL_OK twoB 2
theorem cb_OK : lnOK [lnC, lnB] := fun x hx => by
  simp only [List.mem_cons, List.not_mem_nil, or_false] at hx
  rcases hx with rfl | rfl <;> exact stepV_len _ _ _
theorem ab_check : checkV [lnA, lnB] = 0 := by decide
theorem ab_first : firstV [lnA, lnB] = -1 := by decide +kernel
theorem cb_first : firstV [lnC, lnB] = 0 := by decide +kernel
theorem ab_headE : headE [lnA, lnB] = 0 := by unfold headE; rw [if_pos ab_check, ab_first]; rfl
theorem ab_headV : headV [lnA, lnB] = lnB.sum := by unfold headV; rw [if_pos ab_check, ab_first]; rfl
theorem cb_fst : fstV [lnC, lnB] = 0 := by unfold fstV; rw [if_pos (by decide)]; exact cb_first
theorem cb_check : checkV [lnC, lnB] = 0 := by decide
theorem s_Head_ab : Spec Tryd.prog 31 [.sl (lnT [lnA, lnB])] [] (.tup [.t (.agg (bN lnB.sum)) true, .t (.i .i64 0) true]) := by
  have h := s_chain_Head [lnA, lnB] ab_OK
  rw [ab_headE, ab_headV] at h
  exact h
theorem s_First_cb : Spec Tryd.prog 30 [.sl (lnT [lnC, lnB])] [] (.tup [.t (.i .i64 0) true, .t (.i .i64 0) true]) := by
  have h := s_chain_First [lnC, lnB] cb_OK
  rw [cb_fst, cb_check] at h
  exact h
def witA : Wit := ⟨0, z32, [97#8], [ofV [98#8]]⟩
theorem s_Prove_ab : Spec Tryd.prog 44 [.sl (lnT [lnA, lnB]), .i .i64 0] [] (.tup [.t (.agg witA.cells) true, .t (.i .i64 0) true]) :=
  s_chain_Prove [lnA, lnB] ab_OK 0 (by decide) ab_headE
theorem two_small : smallL twoB := by
  intro k hk
  have hk' : k < 2 := hk
  match k, hk' with
  | 0, _ => show 1 ≤ 200; omega
  | 1, _ => show 1 ≤ 200; omega
theorem s_Make_ab : Spec Tryd.prog 29 [.sl (catE twoB)] [.row 0 33 (lnT [lnA, lnB]) true] (.tup [.row 0 0 0 2, .t (.i .i64 0) true]) := by
  have h := s_chain_Make twoB (by decide) two_small
  exact h
theorem catE_ab : catE twoB = [[.sl [[.i .u8 97]]], [.sl [[.i .u8 98]]]] := rfl
theorem s_chainAlive : Spec Tryd.prog 27 [] [] (.t (.b true) true) := by
  refine spec_k (hold mixed) b_law44_alive [(.b true, true)] ?_
  have hM := s_Make_ab
  rw [catE_ab] at hM
  have a32 := ofV_len [97#8]
  have b32 := ofV_len [98#8]
  simp -implicitDefEqProofs only [go_sem, reduceIte, Nat.reduceAdd, Nat.reduceSub, Nat.reduceMul, Nat.reduceLT, Nat.reduceLeDiff, Nat.reduceEqDiff, Nat.reduceBEq, Int.reduceLE, Int.reduceLT, Int.reduceToNat, Int.reduceMul, Int.reduceAdd, Int.reduceSub, Int.reduceNeg, Int.reduceEq, reduceCtorEq, Nat.reduceMod, Int.reduceBNe, Int.reduceBEq, Int.reduceGT, Int.reduceGE, Int.reduceNe, Int.cast_ofNat_Int, Int.natCast_zero, Int.natCast_one, bne_self_eq_false, gt_iff_lt, ge_iff_le, Int.lt_irrefl, Int.le_refl, Nat.reduceDiv]
  refine call_k hM ?_
  simp -implicitDefEqProofs only [go_sem, reduceIte, Nat.reduceAdd, Nat.reduceSub, Nat.reduceMul, Nat.reduceLT, Nat.reduceLeDiff, Nat.reduceEqDiff, Nat.reduceBEq, Int.reduceLE, Int.reduceLT, Int.reduceToNat, Int.reduceMul, Int.reduceAdd, Int.reduceSub, Int.reduceNeg, Int.reduceEq, reduceCtorEq, Nat.reduceMod, Int.reduceBNe, Int.reduceBEq, Int.reduceGT, Int.reduceGE, Int.reduceNe, Int.cast_ofNat_Int, Int.natCast_zero, Int.natCast_one, bne_self_eq_false, gt_iff_lt, ge_iff_le, Int.lt_irrefl, Int.le_refl, Nat.reduceDiv]
  first | refine call_k (s_Sum' [97#8] (by decide)) ?_ (by simp -implicitDefEqProofs only [go_sem, reduceIte, Nat.reduceAdd, Nat.reduceSub, Nat.reduceMul, Nat.reduceLT, Nat.reduceLeDiff, Nat.reduceEqDiff, Nat.reduceBEq, Int.reduceLE, Int.reduceLT, Int.reduceToNat, Int.reduceMul, Int.reduceAdd, Int.reduceSub, Int.reduceNeg, Int.reduceEq, reduceCtorEq, Nat.reduceMod, Int.reduceBNe, Int.reduceBEq, Int.reduceGT, Int.reduceGE, Int.reduceNe, Int.cast_ofNat_Int, Int.natCast_zero, Int.natCast_one, bne_self_eq_false, gt_iff_lt, ge_iff_le, Int.lt_irrefl, Int.le_refl, Nat.reduceDiv]; rfl) | refine call_d (s_Sum' [97#8] (by decide)) ?_ (by simp -implicitDefEqProofs only [go_sem, reduceIte, Nat.reduceAdd, Nat.reduceSub, Nat.reduceMul, Nat.reduceLT, Nat.reduceLeDiff, Nat.reduceEqDiff, Nat.reduceBEq, Int.reduceLE, Int.reduceLT, Int.reduceToNat, Int.reduceMul, Int.reduceAdd, Int.reduceSub, Int.reduceNeg, Int.reduceEq, reduceCtorEq, Nat.reduceMod, Int.reduceBNe, Int.reduceBEq, Int.reduceGT, Int.reduceGE, Int.reduceNe, Int.cast_ofNat_Int, Int.natCast_zero, Int.natCast_one, bne_self_eq_false, gt_iff_lt, ge_iff_le, Int.lt_irrefl, Int.le_refl, Nat.reduceDiv]; rfl)
  have hSA : lnA.sum = stepV z32 0 (ofV [97#8]) := rfl
  have hSB : lnB.sum = stepV lnA.sum 1 (ofV [98#8]) := rfl
  have sa32 : lnA.sum.length = 32 := stepV_len _ _ _
  have sb32 : lnB.sum.length = 32 := stepV_len _ _ _
  have st0 : Spec Tryd.prog 53 [.agg (bN z32), .i .i64 0, .agg (bN (ofV [97#8]))] [] (.tup [.t (.agg (bN (stepV z32 0 (ofV [97#8])))) true, .t (.b true) true]) := s_law44_step z32 0 (ofV [97#8]) rfl (by omega) a32
  have st1 : Spec Tryd.prog 53 [.agg (bN lnA.sum), .i .i64 1, .agg (bN (ofV [98#8]))] [] (.tup [.t (.agg (bN (stepV lnA.sum 1 (ofV [98#8])))) true, .t (.b true) true]) := s_law44_step lnA.sum 1 (ofV [98#8]) sa32 (by omega) b32
  rw [← hSA, z32_N] at st0
  rw [← hSB] at st1
  have hwl : witA.later = [ofV [98#8]] := rfl
  have hP := s_Prove_ab
  have hwc : witA.cells = .i .i64 0 :: (bN z32 ++ [.sl [[.i .u8 97]], .sl [bN (ofV [98#8])]]) := rfl
  rw [hwc] at hP
  generalize ofV [97#8] = A at *
  simp -implicitDefEqProofs only [go_sem, reduceIte, Nat.reduceAdd, Nat.reduceSub, Nat.reduceMul, Nat.reduceLT, Nat.reduceLeDiff, Nat.reduceEqDiff, Nat.reduceBEq, Int.reduceLE, Int.reduceLT, Int.reduceToNat, Int.reduceMul, Int.reduceAdd, Int.reduceSub, Int.reduceNeg, Int.reduceEq, reduceCtorEq, Nat.reduceMod, Int.reduceBNe, Int.reduceBEq, Int.reduceGT, Int.reduceGE, Int.reduceNe, Int.cast_ofNat_Int, Int.natCast_zero, Int.natCast_one, bne_self_eq_false, gt_iff_lt, ge_iff_le, Int.lt_irrefl, Int.le_refl, Nat.reduceDiv, bN_map, a32, bC_take a32]
  refine ⟨bC_one _, ?_⟩
  first | refine call_k (s_Sum' [98#8] (by decide)) ?_ (by simp -implicitDefEqProofs only [go_sem, reduceIte, Nat.reduceAdd, Nat.reduceSub, Nat.reduceMul, Nat.reduceLT, Nat.reduceLeDiff, Nat.reduceEqDiff, Nat.reduceBEq, Int.reduceLE, Int.reduceLT, Int.reduceToNat, Int.reduceMul, Int.reduceAdd, Int.reduceSub, Int.reduceNeg, Int.reduceEq, reduceCtorEq, Nat.reduceMod, Int.reduceBNe, Int.reduceBEq, Int.reduceGT, Int.reduceGE, Int.reduceNe, Int.cast_ofNat_Int, Int.natCast_zero, Int.natCast_one, bne_self_eq_false, gt_iff_lt, ge_iff_le, Int.lt_irrefl, Int.le_refl, Nat.reduceDiv]; rfl) | refine call_d (s_Sum' [98#8] (by decide)) ?_ (by simp -implicitDefEqProofs only [go_sem, reduceIte, Nat.reduceAdd, Nat.reduceSub, Nat.reduceMul, Nat.reduceLT, Nat.reduceLeDiff, Nat.reduceEqDiff, Nat.reduceBEq, Int.reduceLE, Int.reduceLT, Int.reduceToNat, Int.reduceMul, Int.reduceAdd, Int.reduceSub, Int.reduceNeg, Int.reduceEq, reduceCtorEq, Nat.reduceMod, Int.reduceBNe, Int.reduceBEq, Int.reduceGT, Int.reduceGE, Int.reduceNe, Int.cast_ofNat_Int, Int.natCast_zero, Int.natCast_one, bne_self_eq_false, gt_iff_lt, ge_iff_le, Int.lt_irrefl, Int.le_refl, Nat.reduceDiv]; rfl)
  generalize ofV [98#8] = B at *
  simp -implicitDefEqProofs only [go_sem, reduceIte, Nat.reduceAdd, Nat.reduceSub, Nat.reduceMul, Nat.reduceLT, Nat.reduceLeDiff, Nat.reduceEqDiff, Nat.reduceBEq, Int.reduceLE, Int.reduceLT, Int.reduceToNat, Int.reduceMul, Int.reduceAdd, Int.reduceSub, Int.reduceNeg, Int.reduceEq, reduceCtorEq, Nat.reduceMod, Int.reduceBNe, Int.reduceBEq, Int.reduceGT, Int.reduceGE, Int.reduceNe, Int.cast_ofNat_Int, Int.natCast_zero, Int.natCast_one, bne_self_eq_false, gt_iff_lt, ge_iff_le, Int.lt_irrefl, Int.le_refl, Nat.reduceDiv, bN_map, b32, bC_take b32, a32, bC_take a32]
  refine ⟨bC_one _, ?_⟩
  first | refine call_k st0 ?_ | refine call_d st0 ?_
  simp -implicitDefEqProofs only [go_sem, reduceIte, Nat.reduceAdd, Nat.reduceSub, Nat.reduceMul, Nat.reduceLT, Nat.reduceLeDiff, Nat.reduceEqDiff, Nat.reduceBEq, Int.reduceLE, Int.reduceLT, Int.reduceToNat, Int.reduceMul, Int.reduceAdd, Int.reduceSub, Int.reduceNeg, Int.reduceEq, reduceCtorEq, Nat.reduceMod, Int.reduceBNe, Int.reduceBEq, Int.reduceGT, Int.reduceGE, Int.reduceNe, Int.cast_ofNat_Int, Int.natCast_zero, Int.natCast_one, bne_self_eq_false, gt_iff_lt, ge_iff_le, Int.lt_irrefl, Int.le_refl, Nat.reduceDiv, bN_map, sa32, bC_take sa32, b32, bC_take b32]
  refine ⟨bC_one _, ?_⟩
  first | refine call_k st1 ?_ | refine call_d st1 ?_
  simp -implicitDefEqProofs only [go_sem, reduceIte, Nat.reduceAdd, Nat.reduceSub, Nat.reduceMul, Nat.reduceLT, Nat.reduceLeDiff, Nat.reduceEqDiff, Nat.reduceBEq, Int.reduceLE, Int.reduceLT, Int.reduceToNat, Int.reduceMul, Int.reduceAdd, Int.reduceSub, Int.reduceNeg, Int.reduceEq, reduceCtorEq, Nat.reduceMod, Int.reduceBNe, Int.reduceBEq, Int.reduceGT, Int.reduceGE, Int.reduceNe, Int.cast_ofNat_Int, Int.natCast_zero, Int.natCast_one, bne_self_eq_false, gt_iff_lt, ge_iff_le, Int.lt_irrefl, Int.le_refl, Nat.reduceDiv, bN_map, sb32, bC_take sb32]
  refine ⟨bC_one _, ?_⟩
  first | refine call_k s_Head_ab ?_ (by simp -implicitDefEqProofs only [go_sem, reduceIte, Nat.reduceAdd, Nat.reduceSub, Nat.reduceMul, Nat.reduceLT, Nat.reduceLeDiff, Nat.reduceEqDiff, Nat.reduceBEq, Int.reduceLE, Int.reduceLT, Int.reduceToNat, Int.reduceMul, Int.reduceAdd, Int.reduceSub, Int.reduceNeg, Int.reduceEq, reduceCtorEq, Nat.reduceMod, Int.reduceBNe, Int.reduceBEq, Int.reduceGT, Int.reduceGE, Int.reduceNe, Int.cast_ofNat_Int, Int.natCast_zero, Int.natCast_one, bne_self_eq_false, gt_iff_lt, ge_iff_le, Int.lt_irrefl, Int.le_refl, Nat.reduceDiv]; rfl) | refine call_d s_Head_ab ?_ (by simp -implicitDefEqProofs only [go_sem, reduceIte, Nat.reduceAdd, Nat.reduceSub, Nat.reduceMul, Nat.reduceLT, Nat.reduceLeDiff, Nat.reduceEqDiff, Nat.reduceBEq, Int.reduceLE, Int.reduceLT, Int.reduceToNat, Int.reduceMul, Int.reduceAdd, Int.reduceSub, Int.reduceNeg, Int.reduceEq, reduceCtorEq, Nat.reduceMod, Int.reduceBNe, Int.reduceBEq, Int.reduceGT, Int.reduceGE, Int.reduceNe, Int.cast_ofNat_Int, Int.natCast_zero, Int.natCast_one, bne_self_eq_false, gt_iff_lt, ge_iff_le, Int.lt_irrefl, Int.le_refl, Nat.reduceDiv]; rfl)
  simp -implicitDefEqProofs only [go_sem, reduceIte, Nat.reduceAdd, Nat.reduceSub, Nat.reduceMul, Nat.reduceLT, Nat.reduceLeDiff, Nat.reduceEqDiff, Nat.reduceBEq, Int.reduceLE, Int.reduceLT, Int.reduceToNat, Int.reduceMul, Int.reduceAdd, Int.reduceSub, Int.reduceNeg, Int.reduceEq, reduceCtorEq, Nat.reduceMod, Int.reduceBNe, Int.reduceBEq, Int.reduceGT, Int.reduceGE, Int.reduceNe, Int.cast_ofNat_Int, Int.natCast_zero, Int.natCast_one, bne_self_eq_false, gt_iff_lt, ge_iff_le, Int.lt_irrefl, Int.le_refl, Nat.reduceDiv, bN_map, sb32, bC_take sb32]
  refine ⟨bC_one _, ?_⟩
  first | refine call_k hP ?_ (by simp -implicitDefEqProofs only [go_sem, reduceIte, Nat.reduceAdd, Nat.reduceSub, Nat.reduceMul, Nat.reduceLT, Nat.reduceLeDiff, Nat.reduceEqDiff, Nat.reduceBEq, Int.reduceLE, Int.reduceLT, Int.reduceToNat, Int.reduceMul, Int.reduceAdd, Int.reduceSub, Int.reduceNeg, Int.reduceEq, reduceCtorEq, Nat.reduceMod, Int.reduceBNe, Int.reduceBEq, Int.reduceGT, Int.reduceGE, Int.reduceNe, Int.cast_ofNat_Int, Int.natCast_zero, Int.natCast_one, bne_self_eq_false, gt_iff_lt, ge_iff_le, Int.lt_irrefl, Int.le_refl, Nat.reduceDiv]; rfl) | refine call_d hP ?_ (by simp -implicitDefEqProofs only [go_sem, reduceIte, Nat.reduceAdd, Nat.reduceSub, Nat.reduceMul, Nat.reduceLT, Nat.reduceLeDiff, Nat.reduceEqDiff, Nat.reduceBEq, Int.reduceLE, Int.reduceLT, Int.reduceToNat, Int.reduceMul, Int.reduceAdd, Int.reduceSub, Int.reduceNeg, Int.reduceEq, reduceCtorEq, Nat.reduceMod, Int.reduceBNe, Int.reduceBEq, Int.reduceGT, Int.reduceGE, Int.reduceNe, Int.cast_ofNat_Int, Int.natCast_zero, Int.natCast_one, bne_self_eq_false, gt_iff_lt, ge_iff_le, Int.lt_irrefl, Int.le_refl, Nat.reduceDiv]; rfl)
  have zl : z32.length = 32 := rfl
  have hZ := idC_C zl
  have z0 := fun X => hZ.tk X 0
  have z2 := fun X => hZ.tk X 2
  have y2 := fun X => hZ.dr X 2
  have q0 := fun X => hZ.at X 0
  have q1 := fun X => hZ.at X 1
  simp only [Nat.reduceAdd, List.take_zero, List.append_nil] at z0 z2 y2 q0 q1
  simp -implicitDefEqProofs only [go_sem, reduceIte, Nat.reduceAdd, Nat.reduceSub, Nat.reduceMul, Nat.reduceLT, Nat.reduceLeDiff, Nat.reduceEqDiff, Nat.reduceBEq, Int.reduceLE, Int.reduceLT, Int.reduceToNat, Int.reduceMul, Int.reduceAdd, Int.reduceSub, Int.reduceNeg, Int.reduceEq, reduceCtorEq, Nat.reduceMod, Int.reduceBNe, Int.reduceBEq, Int.reduceGT, Int.reduceGE, Int.reduceNe, Int.cast_ofNat_Int, Int.natCast_zero, Int.natCast_one, bne_self_eq_false, gt_iff_lt, ge_iff_le, Int.lt_irrefl, Int.le_refl, Nat.reduceDiv, List.map_append, bN_map, zl, List.length_append, z2, y2]
  refine ⟨fun a ha => ?_, ?_⟩
  · rcases List.mem_append.1 ha with h | h
    · exact bC_one _ a h
    · simp only [List.mem_cons, List.not_mem_nil, or_false] at h
      rcases h with rfl | rfl <;> simp [AV.one, T.one]
  have hrow : (lnT [lnA, lnB]).set 0 (setT ((lnT [lnA, lnB])[0]?.getD []) 0 [T.sl [[T.i IntKind.u8 99]]]) = lnT [lnC, lnB] := rfl
  rw [hrow]
  refine ⟨⟨rfl, by show 1 ≤ (bN lnA.sum).length + 1; omega⟩, ?_⟩
  have hC : lnC.sum = lnA.sum := rfl
  have c32 : lnC.sum.length = 32 := sa32
  have g0 : (lnT [lnC, lnB])[0]? = some lnC.E := rfl
  have g1 : (lnT [lnC, lnB])[1]? = some lnB.E := rfl
  have str : ((strOf [[T.i .u8 97]]).toList == (⟨#[97]⟩ : ByteArray).toList) = true := by decide +kernel
  first | refine call_k s_First_cb ?_ (by simp -implicitDefEqProofs only [go_sem, reduceIte, Nat.reduceAdd, Nat.reduceSub, Nat.reduceMul, Nat.reduceLT, Nat.reduceLeDiff, Nat.reduceEqDiff, Nat.reduceBEq, Int.reduceLE, Int.reduceLT, Int.reduceToNat, Int.reduceMul, Int.reduceAdd, Int.reduceSub, Int.reduceNeg, Int.reduceEq, reduceCtorEq, Nat.reduceMod, Int.reduceBNe, Int.reduceBEq, Int.reduceGT, Int.reduceGE, Int.reduceNe, Int.cast_ofNat_Int, Int.natCast_zero, Int.natCast_one, bne_self_eq_false, gt_iff_lt, ge_iff_le, Int.lt_irrefl, Int.le_refl, Nat.reduceDiv]; rfl) | refine call_d s_First_cb ?_ (by simp -implicitDefEqProofs only [go_sem, reduceIte, Nat.reduceAdd, Nat.reduceSub, Nat.reduceMul, Nat.reduceLT, Nat.reduceLeDiff, Nat.reduceEqDiff, Nat.reduceBEq, Int.reduceLE, Int.reduceLT, Int.reduceToNat, Int.reduceMul, Int.reduceAdd, Int.reduceSub, Int.reduceNeg, Int.reduceEq, reduceCtorEq, Nat.reduceMod, Int.reduceBNe, Int.reduceBEq, Int.reduceGT, Int.reduceGE, Int.reduceNe, Int.cast_ofNat_Int, Int.natCast_zero, Int.natCast_one, bne_self_eq_false, gt_iff_lt, ge_iff_le, Int.lt_irrefl, Int.le_refl, Nat.reduceDiv]; rfl)
  simp -implicitDefEqProofs only [go_sem, reduceIte, Nat.reduceAdd, Nat.reduceSub, Nat.reduceMul, Nat.reduceLT, Nat.reduceLeDiff, Nat.reduceEqDiff, Nat.reduceBEq, Int.reduceLE, Int.reduceLT, Int.reduceToNat, Int.reduceMul, Int.reduceAdd, Int.reduceSub, Int.reduceNeg, Int.reduceEq, reduceCtorEq, Nat.reduceMod, Int.reduceBNe, Int.reduceBEq, Int.reduceGT, Int.reduceGE, Int.reduceNe, Int.cast_ofNat_Int, Int.natCast_zero, Int.natCast_one, bne_self_eq_false, gt_iff_lt, ge_iff_le, Int.lt_irrefl, Int.le_refl, Nat.reduceDiv, g0, g1, c32, sa32, sb32, bN_take sa32, bN_take sb32, bC_take sa32, bC_take sb32, plains_bC, hC, eqCells_bN _ _ rfl, q0, q1, b32, bC_take b32, bN_take b32, str]
  refine ⟨bN_isI _, bN_isI _, bN_isI _, bN_isI _, areBytes_bT [97#8]⟩
theorem mkL_take (all : List (List (BitVec 8))) : ∀ {n k : Nat}, k ≤ n → (mkL all n).take k = mkL all k
  | 0, k, h => by
    obtain rfl : k = 0 := by omega
    rfl
  | n + 1, k, h => by
    rcases Nat.lt_or_ge n k with h1 | h1
    · obtain rfl : k = n + 1 := by omega
      exact List.take_of_length_le (by rw [mkL_len]; exact Nat.le_refl _)
    · simp only [mkL]
      rw [List.take_append_of_le_length (by rw [mkL_len]; exact h1)]
      exact mkL_take all h1
theorem mkL_get {all : List (List (BitVec 8))} {n k : Nat} (hk : k < n) (hn : n ≤ all.length) (h : k < (mkL all n).length) : (mkL all n)[k] = ⟨all[k]'(by omega), stepV (befV (mkL all k) k) k (ofV (all[k]'(by omega)))⟩ := by
  have h1 := mkL_take all (show k + 1 ≤ n by omega)
  have h2 : ((mkL all n).take (k + 1))[k]'(by rw [List.length_take, mkL_len]; omega) = (mkL all n)[k] := by rw [List.getElem_take]
  rw [← h2]
  simp only [h1, mkL_step (show k < all.length by omega)]
  rw [List.getElem_append_right (by rw [mkL_len]; exact Nat.le_refl _)]
  simp [mkL_len]
theorem befV_mkL (all : List (List (BitVec 8))) {n k : Nat} (hk : k ≤ n) : befV (mkL all n) k = befV (mkL all k) k := by
  cases k with
  | zero => rfl
  | succ k =>
    rw [befV_succ (show k < (mkL all n).length by rw [mkL_len]; omega), befV_succ (show k < (mkL all (k + 1)).length by rw [mkL_len]; omega)]
    have h1 := mkL_take all hk
    have h2 : ((mkL all n).take (k + 1))[k]'(by rw [List.length_take, mkL_len]; omega) = (mkL all n)[k]'(by rw [mkL_len]; omega) := by rw [List.getElem_take]
    rw [← h2]
    simp only [h1]
theorem mk_okB {all : List (List (BitVec 8))} {n k : Nat} (hk : k < n) (hn : n ≤ all.length) : okB (mkL all n) k = true := by
  have hl : k < (mkL all n).length := by rw [mkL_len]; exact hk
  rw [okB_at hl, beq_iff_eq, befV_mkL all (show k ≤ n by omega), mkL_get hk hn hl]
theorem mk_first {all : List (List (BitVec 8))} {n : Nat} (hn : n ≤ all.length) : firstV (mkL all n) = -1 := firstV_none fun j hj => mk_okB (by rw [mkL_len] at hj; exact hj) hn
theorem mk_check {all : List (List (BitVec 8))} (hs : smallL all) {n : Nat} (hn : n ≤ all.length) (h40 : n ≤ 40) : checkV (mkL all n) = 0 :=
  checkV_ok (by rw [mkL_len]; omega) fun j hj => by
    rw [mkL_len] at hj
    rw [mkL_get hj hn (by rw [mkL_len]; exact hj)]
    exact hs j (by omega)
theorem mk_headE {all : List (List (BitVec 8))} (hs : smallL all) {n : Nat} (hn : n ≤ all.length) (h40 : n ≤ 40) : headE (mkL all n) = 0 := by
  unfold headE
  rw [if_pos (mk_check hs hn h40), mk_first hn]
  rfl
theorem mk_headV {all : List (List (BitVec 8))} (hs : smallL all) {n : Nat} (hn : n ≤ all.length) (h40 : n ≤ 40) : headV (mkL all n) = befV (mkL all n) n := by
  unfold headV
  rw [if_pos (mk_check hs hn h40), mk_first hn, mkL_len]
  rfl
theorem mk_fst {all : List (List (BitVec 8))} (hs : smallL all) {n : Nat} (hn : n ≤ all.length) (h40 : n ≤ 40) : fstV (mkL all n) = -1 := by
  unfold fstV
  rw [if_pos (mk_check hs hn h40)]
  exact mk_first hn
end Go.Proofs.YtgkmhmhbepfiaaaDoor.Pm
