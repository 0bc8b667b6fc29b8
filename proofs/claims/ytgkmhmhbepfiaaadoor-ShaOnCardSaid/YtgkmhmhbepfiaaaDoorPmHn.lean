/- sha: the statements' examples. No law of Go's is stated here. -/
import Derived.Test.YtgkmhmhbepfiaaaDoorPmHm
set_option linter.all false
set_option maxRecDepth 100000
set_option maxHeartbeats 2000000
namespace Go.Proofs.YtgkmhmhbepfiaaaDoor.Pm
open Go Go.RowKit

theorem bC_at {ws : List (BitVec 8)} {k : Nat} {x : BitVec 8} (h : ws[k]? = some x) : (bC ws)[k]? = some (.t (.i .u8 x.toNat) true) := by simp [bC, h]
theorem s_law08_is (y : ByteArray) (bs : List (BitVec 8)) (hy : bytesOfStr y = bT bs) (hs : y.size ≤ 1000000) (hb : bs.length ≤ 1000000) (a b c d e : BitVec 8) (h0 : (ofV bs)[0]? = some a) (h1 : (ofV bs)[1]? = some b) (h2 : (ofV bs)[2]? = some c) (h3 : (ofV bs)[3]? = some d) (h4 : (ofV bs)[31]? = some e) :
    Spec Tryd.prog 26 [.s y, .i .u8 a.toNat, .i .u8 b.toNat, .i .u8 c.toNat, .i .u8 d.toNat, .i .u8 e.toNat] [] (.t (.b true) true) := by
  refine spec_k (hold mixed) b_law08_is [(.b true, true)] ?_
  have g0 := bC_at h0
  have g1 := bC_at h1
  have g2 := bC_at h2
  have g3 := bC_at h3
  have g4 := bC_at h4
  have hd := ofV_len bs
  have hv : sumV bs = ofV bs := if_pos hb
  have hvE : sumE bs = 0 := if_pos hb
  have hS := s_sha_Sum bs
  rw [hv, hvE] at hS
  simp -implicitDefEqProofs only [go_sem, reduceIte, Nat.reduceAdd, Nat.reduceSub, Nat.reduceMul, Nat.reduceLT, Nat.reduceLeDiff, Nat.reduceEqDiff, Nat.reduceBEq, Int.reduceLE, Int.reduceLT, Int.reduceToNat, Int.reduceMul, Int.reduceAdd, Int.reduceSub, Int.reduceNeg, Int.reduceEq, reduceCtorEq, Nat.reduceMod, Int.reduceBNe, Int.reduceBEq, Int.reduceGT, Int.reduceGE, Int.reduceNe, Int.cast_ofNat_Int, Int.natCast_zero, Int.natCast_one, bne_self_eq_false, gt_iff_lt, ge_iff_le, Int.lt_irrefl, Int.le_refl, hy]
  refine ⟨by unfold room; omega, ?_⟩
  first | refine call_k hS ?_ | refine call_d hS ?_
  simp -implicitDefEqProofs only [go_sem, reduceIte, Nat.reduceAdd, Nat.reduceSub, Nat.reduceMul, Nat.reduceLT, Nat.reduceLeDiff, Nat.reduceEqDiff, Nat.reduceBEq, Int.reduceLE, Int.reduceLT, Int.reduceToNat, Int.reduceMul, Int.reduceAdd, Int.reduceSub, Int.reduceNeg, Int.reduceEq, reduceCtorEq, Nat.reduceMod, Int.reduceBNe, Int.reduceBEq, Int.reduceGT, Int.reduceGE, Int.reduceNe, Int.cast_ofNat_Int, Int.natCast_zero, Int.natCast_one, bne_self_eq_false, gt_iff_lt, ge_iff_le, Int.lt_irrefl, Int.le_refl, bN_map, hd, bC_take hd, g0, g1, g2, g3, g4]
  exact bC_one _
theorem pad3 : padR 3 = 128#8 :: (List.replicate 59 0#8 ++ [24#8]) := by decide +kernel
theorem pad56 : (padR 56).length = 72 := by decide +kernel
theorem pad3_get (k : Nat) (h1 : 1 ≤ k) (h2 : k < 60) : (bT (padR 3))[k]? = some [.i .u8 0] := by
  have key : ∀ k : Fin 60, 1 ≤ k.1 → (padR 3)[k.1]? = some 0#8 := by rw [pad3]; decide
  have := key ⟨k, h2⟩ h1
  simp only at this
  simp [bT, this]
theorem is0 : Spec Tryd.prog 26 [.s ⟨#[]⟩, .i .u8 227, .i .u8 176, .i .u8 196, .i .u8 66, .i .u8 85] [] (.t (.b true) true) :=
  s_law08_is ⟨#[]⟩ [] rfl (by decide) (by decide) 227#8 176#8 196#8 66#8 85#8 (by decide +kernel) (by decide +kernel) (by decide +kernel) (by decide +kernel) (by decide +kernel)
theorem is3 : Spec Tryd.prog 26 [.s ⟨#[97, 98, 99]⟩, .i .u8 186, .i .u8 120, .i .u8 22, .i .u8 191, .i .u8 173] [] (.t (.b true) true) :=
  s_law08_is ⟨#[97, 98, 99]⟩ [97#8, 98#8, 99#8] rfl (by decide) (by decide) 186#8 120#8 22#8 191#8 173#8 (by decide +kernel) (by decide +kernel) (by decide +kernel) (by decide +kernel) (by decide +kernel)
theorem s_alive : Spec Tryd.prog 21 [] [] (.t (.b true) true) := by
  refine spec_k (hold mixed) b_law08_alive [(.b true, true)] ?_
  have e3 : padE 3 = 0 := rfl
  have e56 : padE 56 = 0 := rfl
  have l3 : (padR 3).length = 61 := by rw [pad3]; rfl
  have l56 := pad56
  have g0 : (bT (padR 3))[0]? = some [.i .u8 128] := by rw [pad3]; rfl
  have g60 : (bT (padR 3))[60]? = some [.i .u8 24] := by rw [pad3]; rfl
  have gk := pad3_get
  have hA := s_sha_Pad 3
  have hB := s_sha_Pad 56
  rw [e3] at hA
  rw [e56] at hB
  generalize padR 3 = p at *
  generalize padR 56 = q at *
  simp -implicitDefEqProofs only [go_sem, reduceIte, Nat.reduceAdd, Nat.reduceSub, Nat.reduceMul, Nat.reduceLT, Nat.reduceLeDiff, Nat.reduceEqDiff, Nat.reduceBEq, Int.reduceLE, Int.reduceLT, Int.reduceToNat, Int.reduceMul, Int.reduceAdd, Int.reduceSub, Int.reduceNeg, Int.reduceEq, reduceCtorEq, Nat.reduceMod, Int.reduceBNe, Int.reduceBEq, Int.reduceGT, Int.reduceGE, Int.reduceNe, Int.cast_ofNat_Int, Int.natCast_zero, Int.natCast_one, bne_self_eq_false, gt_iff_lt, ge_iff_le, Int.lt_irrefl, Int.le_refl]
  first | refine call_k hA ?_ | refine call_d hA ?_
  simp -implicitDefEqProofs only [go_sem, reduceIte, Nat.reduceAdd, Nat.reduceSub, Nat.reduceMul, Nat.reduceLT, Nat.reduceLeDiff, Nat.reduceEqDiff, Nat.reduceBEq, Int.reduceLE, Int.reduceLT, Int.reduceToNat, Int.reduceMul, Int.reduceAdd, Int.reduceSub, Int.reduceNeg, Int.reduceEq, reduceCtorEq, Nat.reduceMod, Int.reduceBNe, Int.reduceBEq, Int.reduceGT, Int.reduceGE, Int.reduceNe, Int.cast_ofNat_Int, Int.natCast_zero, Int.natCast_one, bne_self_eq_false, gt_iff_lt, ge_iff_le, Int.lt_irrefl, Int.le_refl]
  first | refine call_k hB ?_ | refine call_d hB ?_
  simp -implicitDefEqProofs only [go_sem, reduceIte, Nat.reduceAdd, Nat.reduceSub, Nat.reduceMul, Nat.reduceLT, Nat.reduceLeDiff, Nat.reduceEqDiff, Nat.reduceBEq, Int.reduceLE, Int.reduceLT, Int.reduceToNat, Int.reduceMul, Int.reduceAdd, Int.reduceSub, Int.reduceNeg, Int.reduceEq, reduceCtorEq, Nat.reduceMod, Int.reduceBNe, Int.reduceBEq, Int.reduceGT, Int.reduceGE, Int.reduceNe, Int.cast_ofNat_Int, Int.natCast_zero, Int.natCast_one, bne_self_eq_false, gt_iff_lt, ge_iff_le, Int.lt_irrefl, Int.le_refl, l3, l56, g0, g60]
  refine loop_l (α := Nat) (fun k => ⟨tmL [(1, .t (.sl (bT p)) true), (5, .t (.i .i64 k) true)], []⟩) (fun k => 60 - k) (fun k => 1 ≤ k ∧ k ≤ 60) 1 (by simp -implicitDefEqProofs only [go_sem, reduceIte, Nat.reduceAdd, Nat.reduceSub, Nat.reduceMul, Nat.reduceLT, Nat.reduceLeDiff, Nat.reduceEqDiff, Nat.reduceBEq, Int.reduceLE, Int.reduceLT, Int.reduceToNat, Int.reduceMul, Int.reduceAdd, Int.reduceSub, Int.reduceNeg, Int.reduceEq, reduceCtorEq, Nat.reduceMod]; rfl) (by omega) ?_
  rintro k ⟨hk1, hk⟩ R hR
  simp -implicitDefEqProofs only [go_sem, reduceIte, Nat.reduceAdd, Nat.reduceSub, Nat.reduceMul, Nat.reduceLT, Nat.reduceLeDiff, Nat.reduceEqDiff, Nat.reduceBEq, Int.reduceLE, Int.reduceLT, Int.reduceToNat, Int.reduceMul, Int.reduceAdd, Int.reduceSub, Int.reduceNeg, Int.reduceEq, reduceCtorEq, Nat.reduceMod, Int.reduceBNe, Int.reduceBEq, Int.reduceGT, Int.reduceGE, Int.reduceNe, Int.cast_ofNat_Int, Int.natCast_zero, Int.natCast_one, bne_self_eq_false, gt_iff_lt, ge_iff_le, Int.lt_irrefl, Int.le_refl]
  refine wcond_mk (fun hh => ?_) (fun hh => ?_)
  · have hk' : k < 60 := by have := of_decide_eq_true hh; omega
    have hlt : ((k : Int) < 61) = True := eq_true (by omega)
    simp -implicitDefEqProofs only [go_sem, reduceIte, Nat.reduceAdd, Nat.reduceSub, Nat.reduceMul, Nat.reduceLT, Nat.reduceLeDiff, Nat.reduceEqDiff, Nat.reduceBEq, Int.reduceLE, Int.reduceLT, Int.reduceToNat, Int.reduceMul, Int.reduceAdd, Int.reduceSub, Int.reduceNeg, Int.reduceEq, reduceCtorEq, Nat.reduceMod, Int.reduceBNe, Int.reduceBEq, Int.reduceGT, Int.reduceGE, Int.reduceNe, Int.cast_ofNat_Int, Int.natCast_zero, Int.natCast_one, bne_self_eq_false, gt_iff_lt, ge_iff_le, Int.lt_irrefl, Int.le_refl, gk k hk1 hk', l3, hlt]
    refine hR (k + 1) _ ?_ (by omega) (by omega)
    simp -implicitDefEqProofs only [go_sem, reduceIte, Nat.reduceAdd, Nat.reduceSub, Nat.reduceMul, Nat.reduceLT, Nat.reduceLeDiff, Nat.reduceEqDiff, Nat.reduceBEq, Int.reduceLE, Int.reduceLT, Int.reduceToNat, Int.reduceMul, Int.reduceAdd, Int.reduceSub, Int.reduceNeg, Int.reduceEq, reduceCtorEq, Nat.reduceMod, wrap_i64_id (show -9223372036854775808 ≤ (k : Int) + 1 by omega) (by omega), Int.natCast_add]
    rfl
  · clear hR
    simp -implicitDefEqProofs only [go_sem, reduceIte, Nat.reduceAdd, Nat.reduceSub, Nat.reduceMul, Nat.reduceLT, Nat.reduceLeDiff, Nat.reduceEqDiff, Nat.reduceBEq, Int.reduceLE, Int.reduceLT, Int.reduceToNat, Int.reduceMul, Int.reduceAdd, Int.reduceSub, Int.reduceNeg, Int.reduceEq, reduceCtorEq, Nat.reduceMod, Int.reduceBNe, Int.reduceBEq, Int.reduceGT, Int.reduceGE, Int.reduceNe, Int.cast_ofNat_Int, Int.natCast_zero, Int.natCast_one, bne_self_eq_false, gt_iff_lt, ge_iff_le, Int.lt_irrefl, Int.le_refl]
    first | refine call_k is0 ?_ | refine call_d is0 ?_
    simp -implicitDefEqProofs only [go_sem, reduceIte, Nat.reduceAdd, Nat.reduceSub, Nat.reduceMul, Nat.reduceLT, Nat.reduceLeDiff, Nat.reduceEqDiff, Nat.reduceBEq, Int.reduceLE, Int.reduceLT, Int.reduceToNat, Int.reduceMul, Int.reduceAdd, Int.reduceSub, Int.reduceNeg, Int.reduceEq, reduceCtorEq, Nat.reduceMod, Int.reduceBNe, Int.reduceBEq, Int.reduceGT, Int.reduceGE, Int.reduceNe, Int.cast_ofNat_Int, Int.natCast_zero, Int.natCast_one, bne_self_eq_false, gt_iff_lt, ge_iff_le, Int.lt_irrefl, Int.le_refl]
    first | refine call_k is3 ?_ | refine call_d is3 ?_
    simp -implicitDefEqProofs only [go_sem, reduceIte, Nat.reduceAdd, Nat.reduceSub, Nat.reduceMul, Nat.reduceLT, Nat.reduceLeDiff, Nat.reduceEqDiff, Nat.reduceBEq, Int.reduceLE, Int.reduceLT, Int.reduceToNat, Int.reduceMul, Int.reduceAdd, Int.reduceSub, Int.reduceNeg, Int.reduceEq, reduceCtorEq, Nat.reduceMod, Int.reduceBNe, Int.reduceBEq, Int.reduceGT, Int.reduceGE, Int.reduceNe, Int.cast_ofNat_Int, Int.natCast_zero, Int.natCast_one, bne_self_eq_false, gt_iff_lt, ge_iff_le, Int.lt_irrefl, Int.le_refl]
end Go.Proofs.YtgkmhmhbepfiaaaDoor.Pm
