/- slots: the statement SlotsLoads. No law of Go's is stated here. -/
import Derived.Test.YtdpnjhooehadmaaPmMu
import Derived.Test.YtdpnjhooehadmaaPmYl
set_option linter.all false
set_option maxRecDepth 100000
set_option maxHeartbeats 2000000
namespace Go.Proofs.Ytdpnjhooehadmaa.Pm
open Go Go.RowKit

theorem newO_data {s : Slt} : (loadS s).2.1.length ≤ 1000 := by
  unfold loadS
  split
  · cases ho : newO s with
    | none => exact Nat.zero_le _
    | some r => exact (newO_ok ho).2.2
  · exact Nat.zero_le _
theorem openS_small {s : Slt} (hs : s.fine) : (openS s).1.d0.small ∧ (openS s).1.d1.small := by
  unfold openS
  split
  · rename_i h
    exact ⟨openD_small hs.1 h.1, openD_small hs.2.1 h.2⟩
  · exact ⟨zeroD_small, zeroD_small⟩
def slF (s : Slt) (p : Int × List (BitVec 8) × Int) (q : Slt × Int) (k j : Nat) (b0 b1 : List (BitVec 8)) : S := ⟨tmL [(3, .ptr 5 0), (4, .t (.i .i64 p.1) true), (5, .t (.sl (bT p.2.1)) true), (6, .t (.i .i64 p.2.2) true), (7, .t (.i .i64 p.1) true), (8, .t (.sl (bT p.2.1)) true), (9, .t (.i .i64 p.2.2) true), (10, .ptr 6 0), (11, .t (.i .i64 q.2) true), (12, .ptr 7 0), (13, .t (.i .i64 q.2) true), (14, .t (.i .i64 k) true), (15, .t (.i .i64 j) true)],
  [.var [.t (.sl (bT s.d0.syn)) false, .t (.sl (bT s.d0.tail)) false, .t (.i .i64 s.d0.cap) false, .t (.b s.d0.down) false, .t (.sl (bT s.d1.syn)) false, .t (.sl (bT s.d1.tail)) false, .t (.i .i64 s.d1.cap) false, .t (.b s.d1.down) false, .t (.i .i64 s.next) false],
   .row 0 1 (bT b0) true, .row 0 1 (bT s.d0.tail) true, .row 0 1 (bT b1) true, .row 0 1 (bT s.d1.tail) true,
   .var [.row 1 0 0 s.d0.syn.length, .row 2 0 0 s.d0.tail.length, .t (.i .i64 s.d0.cap) true, .t (.b s.d0.down) true, .row 3 0 0 s.d1.syn.length, .row 4 0 0 s.d1.tail.length, .t (.i .i64 s.d1.cap) true, .t (.b s.d1.down) true, .t (.i .i64 s.next) true],
   .var [.t (.sl (bT q.1.d0.syn)) true, .t (.sl (bT q.1.d0.tail)) true, .t (.i .i64 q.1.d0.cap) true, .t (.b q.1.d0.down) true, .t (.sl (bT q.1.d1.syn)) true, .t (.sl (bT q.1.d1.tail)) true, .t (.i .i64 q.1.d1.cap) true, .t (.b q.1.d1.down) true, .t (.i .i64 q.1.next) true],
   .var [.t (.sl (bT q.1.d0.syn)) true, .t (.sl (bT q.1.d0.tail)) true, .t (.i .i64 q.1.d0.cap) true, .t (.b q.1.d0.down) true, .t (.sl (bT q.1.d1.syn)) true, .t (.sl (bT q.1.d1.tail)) true, .t (.i .i64 q.1.d1.cap) true, .t (.b q.1.d1.down) true, .t (.i .i64 q.1.next) true]]⟩
theorem law_SlotsLoads (s : Slt) (s0 : -9223372036854775808 ≤ s.next) (s1 : s.next ≤ 9223372036854775807) :
    Spec Try.prog 4 [.agg s.cells] [] (.t (.b true) true) := by
  refine spec_k (hold mixed) b_law05_SlotsLoads [(.b true, true)] ?_
  have hG := s_ref05_Great s
  by_cases hg : (greatD s.d0 || greatD s.d1) = true
  · rw [hg] at hG
    simp -implicitDefEqProofs only [go_sem, reduceIte, Nat.reduceAdd, Nat.reduceSub, Nat.reduceMul, Nat.reduceLT, Nat.reduceLeDiff, Nat.reduceEqDiff, Nat.reduceBEq, Int.reduceLE, Int.reduceLT, Int.reduceToNat, Int.reduceMul, Int.reduceAdd, Int.reduceSub, Int.reduceNeg, Int.reduceEq, reduceCtorEq, Nat.reduceMod, Int.reduceBNe, Int.reduceBEq, Int.reduceGT, Int.reduceGE, Int.reduceNe, Int.cast_ofNat_Int, Int.natCast_zero, Int.natCast_one, bne_self_eq_false, gt_iff_lt, ge_iff_le, Int.lt_irrefl, Int.le_refl]
    refine call_k hG ?_
    simp -implicitDefEqProofs only [go_sem, reduceIte, Nat.reduceAdd, Nat.reduceSub, Nat.reduceMul, Nat.reduceLT, Nat.reduceLeDiff, Nat.reduceEqDiff, Nat.reduceBEq, Int.reduceLE, Int.reduceLT, Int.reduceToNat, Int.reduceMul, Int.reduceAdd, Int.reduceSub, Int.reduceNeg, Int.reduceEq, reduceCtorEq, Nat.reduceMod, Int.reduceBNe, Int.reduceBEq, Int.reduceGT, Int.reduceGE, Int.reduceNe, Int.cast_ofNat_Int, Int.natCast_zero, Int.natCast_one, bne_self_eq_false, gt_iff_lt, ge_iff_le, Int.lt_irrefl, Int.le_refl]
  replace hg : (greatD s.d0 || greatD s.d1) = false := by simpa using hg
  rw [hg] at hG
  have hg0 : greatD s.d0 = false ∧ greatD s.d1 = false := by simpa using hg
  have hd0 := greatD_small hg0.1
  have hd1 := greatD_small hg0.2
  have hs : s.fine := ⟨hd0, hd1, s0, s1⟩
  have hdl := newO_data (s := s)
  have ho := openS_small hs
  simp -implicitDefEqProofs only [go_sem, reduceIte, Nat.reduceAdd, Nat.reduceSub, Nat.reduceMul, Nat.reduceLT, Nat.reduceLeDiff, Nat.reduceEqDiff, Nat.reduceBEq, Int.reduceLE, Int.reduceLT, Int.reduceToNat, Int.reduceMul, Int.reduceAdd, Int.reduceSub, Int.reduceNeg, Int.reduceEq, reduceCtorEq, Nat.reduceMod, Int.reduceBNe, Int.reduceBEq, Int.reduceGT, Int.reduceGE, Int.reduceNe, Int.cast_ofNat_Int, Int.natCast_zero, Int.natCast_one, bne_self_eq_false, gt_iff_lt, ge_iff_le, Int.lt_irrefl, Int.le_refl]
  refine call_k hG ?_
  simp -implicitDefEqProofs only [go_sem, reduceIte, Nat.reduceAdd, Nat.reduceSub, Nat.reduceMul, Nat.reduceLT, Nat.reduceLeDiff, Nat.reduceEqDiff, Nat.reduceBEq, Int.reduceLE, Int.reduceLT, Int.reduceToNat, Int.reduceMul, Int.reduceAdd, Int.reduceSub, Int.reduceNeg, Int.reduceEq, reduceCtorEq, Nat.reduceMod, Int.reduceBNe, Int.reduceBEq, Int.reduceGT, Int.reduceGE, Int.reduceNe, Int.cast_ofNat_Int, Int.natCast_zero, Int.natCast_one, bne_self_eq_false, gt_iff_lt, ge_iff_le, Int.lt_irrefl, Int.le_refl]
  refine call_k (s_ref05_Twin s hd0 hd1) ?_
  simp -implicitDefEqProofs only [go_sem, reduceIte, Nat.reduceAdd, Nat.reduceSub, Nat.reduceMul, Nat.reduceLT, Nat.reduceLeDiff, Nat.reduceEqDiff, Nat.reduceBEq, Int.reduceLE, Int.reduceLT, Int.reduceToNat, Int.reduceMul, Int.reduceAdd, Int.reduceSub, Int.reduceNeg, Int.reduceEq, reduceCtorEq, Nat.reduceMod, Int.reduceBNe, Int.reduceBEq, Int.reduceGT, Int.reduceGE, Int.reduceNe, Int.cast_ofNat_Int, Int.natCast_zero, Int.natCast_one, bne_self_eq_false, gt_iff_lt, ge_iff_le, Int.lt_irrefl, Int.le_refl]
  refine call_k (s_slots_Load s hs) ?_
  simp -implicitDefEqProofs only [go_sem, reduceIte, Nat.reduceAdd, Nat.reduceSub, Nat.reduceMul, Nat.reduceLT, Nat.reduceLeDiff, Nat.reduceEqDiff, Nat.reduceBEq, Int.reduceLE, Int.reduceLT, Int.reduceToNat, Int.reduceMul, Int.reduceAdd, Int.reduceSub, Int.reduceNeg, Int.reduceEq, reduceCtorEq, Nat.reduceMod, Int.reduceBNe, Int.reduceBEq, Int.reduceGT, Int.reduceGE, Int.reduceNe, Int.cast_ofNat_Int, Int.natCast_zero, Int.natCast_one, bne_self_eq_false, gt_iff_lt, ge_iff_le, Int.lt_irrefl, Int.le_refl, opL]
  refine call_k (s_ref05_Load s hs) ?_
  simp -implicitDefEqProofs only [go_sem, reduceIte, Nat.reduceAdd, Nat.reduceSub, Nat.reduceMul, Nat.reduceLT, Nat.reduceLeDiff, Nat.reduceEqDiff, Nat.reduceBEq, Int.reduceLE, Int.reduceLT, Int.reduceToNat, Int.reduceMul, Int.reduceAdd, Int.reduceSub, Int.reduceNeg, Int.reduceEq, reduceCtorEq, Nat.reduceMod, Int.reduceBNe, Int.reduceBEq, Int.reduceGT, Int.reduceGE, Int.reduceNe, Int.cast_ofNat_Int, Int.natCast_zero, Int.natCast_one, bne_self_eq_false, gt_iff_lt, ge_iff_le, Int.lt_irrefl, Int.le_refl, opL]
  refine call_k (s_slots_Open s hs) ?_
  simp -implicitDefEqProofs only [go_sem, reduceIte, Nat.reduceAdd, Nat.reduceSub, Nat.reduceMul, Nat.reduceLT, Nat.reduceLeDiff, Nat.reduceEqDiff, Nat.reduceBEq, Int.reduceLE, Int.reduceLT, Int.reduceToNat, Int.reduceMul, Int.reduceAdd, Int.reduceSub, Int.reduceNeg, Int.reduceEq, reduceCtorEq, Nat.reduceMod, Int.reduceBNe, Int.reduceBEq, Int.reduceGT, Int.reduceGE, Int.reduceNe, Int.cast_ofNat_Int, Int.natCast_zero, Int.natCast_one, bne_self_eq_false, gt_iff_lt, ge_iff_le, Int.lt_irrefl, Int.le_refl, opS]
  refine call_k (s_ref05_Open s hs) ?_
  simp -implicitDefEqProofs only [go_sem, reduceIte, Nat.reduceAdd, Nat.reduceSub, Nat.reduceMul, Nat.reduceLT, Nat.reduceLeDiff, Nat.reduceEqDiff, Nat.reduceBEq, Int.reduceLE, Int.reduceLT, Int.reduceToNat, Int.reduceMul, Int.reduceAdd, Int.reduceSub, Int.reduceNeg, Int.reduceEq, reduceCtorEq, Nat.reduceMod, Int.reduceBNe, Int.reduceBEq, Int.reduceGT, Int.reduceGE, Int.reduceNe, Int.cast_ofNat_Int, Int.natCast_zero, Int.natCast_one, bne_self_eq_false, gt_iff_lt, ge_iff_le, Int.lt_irrefl, Int.le_refl, opS]
  generalize loadS s = p at *
  generalize openS s = q at *
  refine loop_u 3 (ln_step (by simp -implicitDefEqProofs only [go_sem, reduceIte, Nat.reduceAdd, Nat.reduceSub, Nat.reduceMul, Nat.reduceLT, Nat.reduceLeDiff, Nat.reduceEqDiff, Nat.reduceBEq, Int.reduceLE, Int.reduceLT, Int.reduceToNat, Int.reduceMul, Int.reduceAdd, Int.reduceSub, Int.reduceNeg, Int.reduceEq, reduceCtorEq, Nat.reduceMod]; rfl) fun R hR => ?_)
  simp -implicitDefEqProofs only [go_sem, reduceIte, Nat.reduceAdd, Nat.reduceSub, Nat.reduceMul, Nat.reduceLT, Nat.reduceLeDiff, Nat.reduceEqDiff, Nat.reduceBEq, Int.reduceLE, Int.reduceLT, Int.reduceToNat, Int.reduceMul, Int.reduceAdd, Int.reduceSub, Int.reduceNeg, Int.reduceEq, reduceCtorEq, Nat.reduceMod, Int.reduceBNe, Int.reduceBEq, Int.reduceGT, Int.reduceGE, Int.reduceNe, Int.cast_ofNat_Int, Int.natCast_zero, Int.natCast_one, bne_self_eq_false, gt_iff_lt, ge_iff_le, Int.lt_irrefl, Int.le_refl]
  refine loop_l (α := Nat × List (BitVec 8)) (fun a => slF s p q 0 a.1 a.2 s.d1.syn) (fun a => s.d0.syn.length - a.1) (fun a => a.1 ≤ s.d0.syn.length ∧ a.2.length = s.d0.syn.length) (0, s.d0.syn) (by simp -implicitDefEqProofs only [go_sem, reduceIte, Nat.reduceAdd, Nat.reduceSub, Nat.reduceMul, Nat.reduceLT, Nat.reduceLeDiff, Nat.reduceEqDiff, Nat.reduceBEq, Int.reduceLE, Int.reduceLT, Int.reduceToNat, Int.reduceMul, Int.reduceAdd, Int.reduceSub, Int.reduceNeg, Int.reduceEq, reduceCtorEq, Nat.reduceMod, slF]; rfl) ⟨Nat.zero_le _, rfl⟩ ?_
  rintro ⟨j0, c0⟩ ⟨hj0, hc0⟩ T0 hT0
  replace hj0 : j0 ≤ s.d0.syn.length := hj0
  replace hc0 : c0.length = s.d0.syn.length := hc0
  have l0 : s.d0.syn.length ≤ 100000 := hd0.1
  simp -implicitDefEqProofs only [go_sem, reduceIte, Nat.reduceAdd, Nat.reduceSub, Nat.reduceMul, Nat.reduceLT, Nat.reduceLeDiff, Nat.reduceEqDiff, Nat.reduceBEq, Int.reduceLE, Int.reduceLT, Int.reduceToNat, Int.reduceMul, Int.reduceAdd, Int.reduceSub, Int.reduceNeg, Int.reduceEq, reduceCtorEq, Nat.reduceMod, Int.reduceBNe, Int.reduceBEq, Int.reduceGT, Int.reduceGE, Int.reduceNe, Int.cast_ofNat_Int, Int.natCast_zero, Int.natCast_one, bne_self_eq_false, gt_iff_lt, ge_iff_le, Int.lt_irrefl, Int.le_refl, slF]
  refine wcond_mk (fun hh => ?_) (fun hh => ?_)
  · have hk' : j0 < s.d0.syn.length := by have := of_decide_eq_true hh; omega
    have hk2 : j0 < c0.length := by omega
    have hwb : IntKind.u8.wrap (((c0[j0].toNat : Nat) : Int) + 1) = (((c0[j0] + 1#8).toNat : Nat) : Int) := by
      rw [IntKind.wrap_u8', BitVec.toNat_add]; rfl
    have hset : (bT c0).set j0 (setT [T.i .u8 c0[j0].toNat] 0 [T.i .u8 (c0[j0] + 1#8).toNat]) = bT (c0.set j0 (c0[j0] + 1#8)) := by
      rw [setT_one _ _ rfl, bT_setN]
    simp -implicitDefEqProofs only [go_sem, reduceIte, Nat.reduceAdd, Nat.reduceSub, Nat.reduceMul, Nat.reduceLT, Nat.reduceLeDiff, Nat.reduceEqDiff, Nat.reduceBEq, Int.reduceLE, Int.reduceLT, Int.reduceToNat, Int.reduceMul, Int.reduceAdd, Int.reduceSub, Int.reduceNeg, Int.reduceEq, reduceCtorEq, Nat.reduceMod, Int.reduceBNe, Int.reduceBEq, Int.reduceGT, Int.reduceGE, Int.reduceNe, Int.cast_ofNat_Int, Int.natCast_zero, Int.natCast_one, bne_self_eq_false, gt_iff_lt, ge_iff_le, Int.lt_irrefl, Int.le_refl, bT_get hk2, hwb, hset]
    refine ⟨⟨by omega, by omega⟩, ⟨by omega, by omega⟩, hT0 (j0 + 1, c0.set j0 (c0[j0] + 1#8)) _ ?_ ⟨by show j0 + 1 ≤ _; omega, by simp [hc0]⟩ (by show _ - (j0 + 1) < _ - j0; omega)⟩
    simp -implicitDefEqProofs only [go_sem, reduceIte, Nat.reduceAdd, Nat.reduceSub, Nat.reduceMul, Nat.reduceLT, Nat.reduceLeDiff, Nat.reduceEqDiff, Nat.reduceBEq, Int.reduceLE, Int.reduceLT, Int.reduceToNat, Int.reduceMul, Int.reduceAdd, Int.reduceSub, Int.reduceNeg, Int.reduceEq, reduceCtorEq, Nat.reduceMod, wrap_i64_id (show -9223372036854775808 ≤ (j0 : Int) + 1 by omega) (by omega), Int.natCast_add, slF]
    rfl
  simp -implicitDefEqProofs only [go_sem, reduceIte, Nat.reduceAdd, Nat.reduceSub, Nat.reduceMul, Nat.reduceLT, Nat.reduceLeDiff, Nat.reduceEqDiff, Nat.reduceBEq, Int.reduceLE, Int.reduceLT, Int.reduceToNat, Int.reduceMul, Int.reduceAdd, Int.reduceSub, Int.reduceNeg, Int.reduceEq, reduceCtorEq, Nat.reduceMod, Int.reduceBNe, Int.reduceBEq, Int.reduceGT, Int.reduceGE, Int.reduceNe, Int.cast_ofNat_Int, Int.natCast_zero, Int.natCast_one, bne_self_eq_false, gt_iff_lt, ge_iff_le, Int.lt_irrefl, Int.le_refl]
  refine hR _ (ln_step (by simp -implicitDefEqProofs only [go_sem, reduceIte, Nat.reduceAdd, Nat.reduceSub, Nat.reduceMul, Nat.reduceLT, Nat.reduceLeDiff, Nat.reduceEqDiff, Nat.reduceBEq, Int.reduceLE, Int.reduceLT, Int.reduceToNat, Int.reduceMul, Int.reduceAdd, Int.reduceSub, Int.reduceNeg, Int.reduceEq, reduceCtorEq, Nat.reduceMod]; rfl) fun R2 hR2 => ?_)
  simp -implicitDefEqProofs only [go_sem, reduceIte, Nat.reduceAdd, Nat.reduceSub, Nat.reduceMul, Nat.reduceLT, Nat.reduceLeDiff, Nat.reduceEqDiff, Nat.reduceBEq, Int.reduceLE, Int.reduceLT, Int.reduceToNat, Int.reduceMul, Int.reduceAdd, Int.reduceSub, Int.reduceNeg, Int.reduceEq, reduceCtorEq, Nat.reduceMod, Int.reduceBNe, Int.reduceBEq, Int.reduceGT, Int.reduceGE, Int.reduceNe, Int.cast_ofNat_Int, Int.natCast_zero, Int.natCast_one, bne_self_eq_false, gt_iff_lt, ge_iff_le, Int.lt_irrefl, Int.le_refl]
  refine loop_l (α := Nat × List (BitVec 8)) (fun a => slF s p q 1 a.1 c0 a.2) (fun a => s.d1.syn.length - a.1) (fun a => a.1 ≤ s.d1.syn.length ∧ a.2.length = s.d1.syn.length) (0, s.d1.syn) (by simp -implicitDefEqProofs only [go_sem, reduceIte, Nat.reduceAdd, Nat.reduceSub, Nat.reduceMul, Nat.reduceLT, Nat.reduceLeDiff, Nat.reduceEqDiff, Nat.reduceBEq, Int.reduceLE, Int.reduceLT, Int.reduceToNat, Int.reduceMul, Int.reduceAdd, Int.reduceSub, Int.reduceNeg, Int.reduceEq, reduceCtorEq, Nat.reduceMod, slF]; rfl) ⟨Nat.zero_le _, rfl⟩ ?_
  rintro ⟨j1, c1⟩ ⟨hj1, hc1⟩ T1 hT1
  replace hj1 : j1 ≤ s.d1.syn.length := hj1
  replace hc1 : c1.length = s.d1.syn.length := hc1
  have l1 : s.d1.syn.length ≤ 100000 := hd1.1
  simp -implicitDefEqProofs only [go_sem, reduceIte, Nat.reduceAdd, Nat.reduceSub, Nat.reduceMul, Nat.reduceLT, Nat.reduceLeDiff, Nat.reduceEqDiff, Nat.reduceBEq, Int.reduceLE, Int.reduceLT, Int.reduceToNat, Int.reduceMul, Int.reduceAdd, Int.reduceSub, Int.reduceNeg, Int.reduceEq, reduceCtorEq, Nat.reduceMod, Int.reduceBNe, Int.reduceBEq, Int.reduceGT, Int.reduceGE, Int.reduceNe, Int.cast_ofNat_Int, Int.natCast_zero, Int.natCast_one, bne_self_eq_false, gt_iff_lt, ge_iff_le, Int.lt_irrefl, Int.le_refl, slF]
  refine wcond_mk (fun hh => ?_) (fun hh => ?_)
  · have hk' : j1 < s.d1.syn.length := by have := of_decide_eq_true hh; omega
    have hk2 : j1 < c1.length := by omega
    have hwb : IntKind.u8.wrap (((c1[j1].toNat : Nat) : Int) + 1) = (((c1[j1] + 1#8).toNat : Nat) : Int) := by
      rw [IntKind.wrap_u8', BitVec.toNat_add]; rfl
    have hset : (bT c1).set j1 (setT [T.i .u8 c1[j1].toNat] 0 [T.i .u8 (c1[j1] + 1#8).toNat]) = bT (c1.set j1 (c1[j1] + 1#8)) := by
      rw [setT_one _ _ rfl, bT_setN]
    simp -implicitDefEqProofs only [go_sem, reduceIte, Nat.reduceAdd, Nat.reduceSub, Nat.reduceMul, Nat.reduceLT, Nat.reduceLeDiff, Nat.reduceEqDiff, Nat.reduceBEq, Int.reduceLE, Int.reduceLT, Int.reduceToNat, Int.reduceMul, Int.reduceAdd, Int.reduceSub, Int.reduceNeg, Int.reduceEq, reduceCtorEq, Nat.reduceMod, Int.reduceBNe, Int.reduceBEq, Int.reduceGT, Int.reduceGE, Int.reduceNe, Int.cast_ofNat_Int, Int.natCast_zero, Int.natCast_one, bne_self_eq_false, gt_iff_lt, ge_iff_le, Int.lt_irrefl, Int.le_refl, bT_get hk2, hwb, hset]
    refine ⟨⟨by omega, by omega⟩, ⟨by omega, by omega⟩, hT1 (j1 + 1, c1.set j1 (c1[j1] + 1#8)) _ ?_ ⟨by show j1 + 1 ≤ _; omega, by simp [hc1]⟩ (by show _ - (j1 + 1) < _ - j1; omega)⟩
    simp -implicitDefEqProofs only [go_sem, reduceIte, Nat.reduceAdd, Nat.reduceSub, Nat.reduceMul, Nat.reduceLT, Nat.reduceLeDiff, Nat.reduceEqDiff, Nat.reduceBEq, Int.reduceLE, Int.reduceLT, Int.reduceToNat, Int.reduceMul, Int.reduceAdd, Int.reduceSub, Int.reduceNeg, Int.reduceEq, reduceCtorEq, Nat.reduceMod, wrap_i64_id (show -9223372036854775808 ≤ (j1 : Int) + 1 by omega) (by omega), Int.natCast_add, slF]
    rfl
  simp -implicitDefEqProofs only [go_sem, reduceIte, Nat.reduceAdd, Nat.reduceSub, Nat.reduceMul, Nat.reduceLT, Nat.reduceLeDiff, Nat.reduceEqDiff, Nat.reduceBEq, Int.reduceLE, Int.reduceLT, Int.reduceToNat, Int.reduceMul, Int.reduceAdd, Int.reduceSub, Int.reduceNeg, Int.reduceEq, reduceCtorEq, Nat.reduceMod, Int.reduceBNe, Int.reduceBEq, Int.reduceGT, Int.reduceGE, Int.reduceNe, Int.cast_ofNat_Int, Int.natCast_zero, Int.natCast_one, bne_self_eq_false, gt_iff_lt, ge_iff_le, Int.lt_irrefl, Int.le_refl]
  refine hR2 _ (ln_step (by simp -implicitDefEqProofs only [go_sem, reduceIte, Nat.reduceAdd, Nat.reduceSub, Nat.reduceMul, Nat.reduceLT, Nat.reduceLeDiff, Nat.reduceEqDiff, Nat.reduceBEq, Int.reduceLE, Int.reduceLT, Int.reduceToNat, Int.reduceMul, Int.reduceAdd, Int.reduceSub, Int.reduceNeg, Int.reduceEq, reduceCtorEq, Nat.reduceMod]; rfl) fun R3 hR3 => ?_)
  simp -implicitDefEqProofs only [go_sem, reduceIte, Nat.reduceAdd, Nat.reduceSub, Nat.reduceMul, Nat.reduceLT, Nat.reduceLeDiff, Nat.reduceEqDiff, Nat.reduceBEq, Int.reduceLE, Int.reduceLT, Int.reduceToNat, Int.reduceMul, Int.reduceAdd, Int.reduceSub, Int.reduceNeg, Int.reduceEq, reduceCtorEq, Nat.reduceMod, Int.reduceBNe, Int.reduceBEq, Int.reduceGT, Int.reduceGE, Int.reduceNe, Int.cast_ofNat_Int, Int.natCast_zero, Int.natCast_one, bne_self_eq_false, gt_iff_lt, ge_iff_le, Int.lt_irrefl, Int.le_refl]
  have q0 : (p.2.1 == p.2.1) = true := by simp
  have q2 : (p.2.2 == p.2.2) = true := by simp
  have q1 : (p.1 == p.1) = true := by simp
  have q3 : (q.2 == q.2) = true := by simp
  refine call_k (s_ref01_SameBytes p.2.1 p.2.1 (by omega) (by omega)) ?_
  simp -implicitDefEqProofs only [go_sem, reduceIte, Nat.reduceAdd, Nat.reduceSub, Nat.reduceMul, Nat.reduceLT, Nat.reduceLeDiff, Nat.reduceEqDiff, Nat.reduceBEq, Int.reduceLE, Int.reduceLT, Int.reduceToNat, Int.reduceMul, Int.reduceAdd, Int.reduceSub, Int.reduceNeg, Int.reduceEq, reduceCtorEq, Nat.reduceMod, Int.reduceBNe, Int.reduceBEq, Int.reduceGT, Int.reduceGE, Int.reduceNe, Int.cast_ofNat_Int, Int.natCast_zero, Int.natCast_one, bne_self_eq_false, gt_iff_lt, ge_iff_le, Int.lt_irrefl, Int.le_refl, q0, q1, q2]
  refine call_k (s_ref05_Same q.1 q.1 ho.1 ho.2 ho.1 ho.2) ?_
  simp -implicitDefEqProofs only [go_sem, reduceIte, Nat.reduceAdd, Nat.reduceSub, Nat.reduceMul, Nat.reduceLT, Nat.reduceLeDiff, Nat.reduceEqDiff, Nat.reduceBEq, Int.reduceLE, Int.reduceLT, Int.reduceToNat, Int.reduceMul, Int.reduceAdd, Int.reduceSub, Int.reduceNeg, Int.reduceEq, reduceCtorEq, Nat.reduceMod, Int.reduceBNe, Int.reduceBEq, Int.reduceGT, Int.reduceGE, Int.reduceNe, Int.cast_ofNat_Int, Int.natCast_zero, Int.natCast_one, bne_self_eq_false, gt_iff_lt, ge_iff_le, Int.lt_irrefl, Int.le_refl, sameS_self, q3]
end Go.Proofs.Ytdpnjhooehadmaa.Pm
