/- Texts of this proof in one file: PmSd, PmSe, PmSf, PmSx. No law of Go's is stated here. -/
import Derived.Test.YtdpnjhooehadmaaPmMt
import Derived.Test.YtdpnjhooehadmaaPmMd
/-! PmSd -/
set_option linter.all false
set_option maxRecDepth 100000
set_option maxHeartbeats 2000000
namespace Go.Proofs.Ytdpnjhooehadmaa.Pm
open Go Go.RowKit

def opS (p : Slt × Int) : List (T × Bool) := [(.agg p.1.cells, true), (.i .i64 p.2, true)]
def opS3 (p : Slt × Int × Int) : List (T × Bool) := [(.agg p.1.cells, true), (.i .i64 p.2.1, true), (.i .i64 p.2.2, true)]
attribute [go_sem] opS opS3
def loadS (s : Slt) : Int × List (BitVec 8) × Int := if s.ok then (match newO s with
  | some r => (r.num, r.data, 0)
  | none => (0, [], 6)) else (0, [], 8)
def opL (p : Int × List (BitVec 8) × Int) : List (T × Bool) := [(.i .i64 p.1, true), (.sl (bT p.2.1), true), (.i .i64 p.2.2, true)]
attribute [go_sem] opL
theorem s_slots_Load (s : Slt) (hs : s.fine) : Spec Try.prog 25 [.agg s.cells] [] (resV ((opL (loadS s)).map AV.ofT)) := by
  refine spec_k (hold mixed) b_slots_Load (opL (loadS s)) ?_
  have hC := s_slots_Check s hs
  by_cases h : s.ok
  · have hN := s_slots_newest s h.1.1 h.2.1.1
    rw [chkS_ok h] at hC
    cases ho : newO s with
    | none =>
      have ev : loadS s = (0, [], 6) := by simp only [loadS, if_pos h, ho]
      have eb : newB s = ⟨-1, []⟩ := by simp [newB, ho]
      rw [ev]
      rw [eb] at hN
      simp -implicitDefEqProofs only [go_sem, reduceIte, Nat.reduceAdd, Nat.reduceSub, Nat.reduceMul, Nat.reduceLT, Nat.reduceLeDiff, Nat.reduceEqDiff, Nat.reduceBEq, Int.reduceLE, Int.reduceLT, Int.reduceToNat, Int.reduceMul, Int.reduceAdd, Int.reduceSub, Int.reduceNeg, Int.reduceEq, reduceCtorEq, Nat.reduceMod, Int.reduceBNe, Int.reduceBEq, Int.reduceGT, Int.reduceGE, Int.reduceNe, Int.cast_ofNat_Int, Int.natCast_zero, Int.natCast_one, bne_self_eq_false, gt_iff_lt, ge_iff_le, Int.lt_irrefl, Int.le_refl]
      refine call_k hC ?_
      simp -implicitDefEqProofs only [go_sem, reduceIte, Nat.reduceAdd, Nat.reduceSub, Nat.reduceMul, Nat.reduceLT, Nat.reduceLeDiff, Nat.reduceEqDiff, Nat.reduceBEq, Int.reduceLE, Int.reduceLT, Int.reduceToNat, Int.reduceMul, Int.reduceAdd, Int.reduceSub, Int.reduceNeg, Int.reduceEq, reduceCtorEq, Nat.reduceMod, Int.reduceBNe, Int.reduceBEq, Int.reduceGT, Int.reduceGE, Int.reduceNe, Int.cast_ofNat_Int, Int.natCast_zero, Int.natCast_one, bne_self_eq_false, gt_iff_lt, ge_iff_le, Int.lt_irrefl, Int.le_refl]
      refine call_k hN ?_
      simp -implicitDefEqProofs only [go_sem, reduceIte, Nat.reduceAdd, Nat.reduceSub, Nat.reduceMul, Nat.reduceLT, Nat.reduceLeDiff, Nat.reduceEqDiff, Nat.reduceBEq, Int.reduceLE, Int.reduceLT, Int.reduceToNat, Int.reduceMul, Int.reduceAdd, Int.reduceSub, Int.reduceNeg, Int.reduceEq, reduceCtorEq, Nat.reduceMod, Int.reduceBNe, Int.reduceBEq, Int.reduceGT, Int.reduceGE, Int.reduceNe, Int.cast_ofNat_Int, Int.natCast_zero, Int.natCast_one, bne_self_eq_false, gt_iff_lt, ge_iff_le, Int.lt_irrefl, Int.le_refl, Rec.cells, opL]
      try simp -implicitDefEqProofs only [go_sem, reduceIte, Nat.reduceAdd, Nat.reduceSub, Nat.reduceMul, Nat.reduceLT, Nat.reduceLeDiff, Nat.reduceEqDiff, Nat.reduceBEq, Int.reduceLE, Int.reduceLT, Int.reduceToNat, Int.reduceMul, Int.reduceAdd, Int.reduceSub, Int.reduceNeg, Int.reduceEq, reduceCtorEq, Nat.reduceMod, Int.reduceBNe, Int.reduceBEq, Int.reduceGT, Int.reduceGE, Int.reduceNe, Int.cast_ofNat_Int, Int.natCast_zero, Int.natCast_one, bne_self_eq_false, gt_iff_lt, ge_iff_le, Int.lt_irrefl, Int.le_refl, bT, List.map]
    | some r =>
      obtain ⟨p0, p1, p2⟩ := newO_ok ho
      have ev : loadS s = (r.num, r.data, 0) := by simp only [loadS, if_pos h, ho]
      have eb : newB s = r := by simp [newB, ho]
      have q0 : (r.num < 0) = False := eq_false (by omega)
      rw [ev]
      rw [eb] at hN
      simp -implicitDefEqProofs only [go_sem, reduceIte, Nat.reduceAdd, Nat.reduceSub, Nat.reduceMul, Nat.reduceLT, Nat.reduceLeDiff, Nat.reduceEqDiff, Nat.reduceBEq, Int.reduceLE, Int.reduceLT, Int.reduceToNat, Int.reduceMul, Int.reduceAdd, Int.reduceSub, Int.reduceNeg, Int.reduceEq, reduceCtorEq, Nat.reduceMod, Int.reduceBNe, Int.reduceBEq, Int.reduceGT, Int.reduceGE, Int.reduceNe, Int.cast_ofNat_Int, Int.natCast_zero, Int.natCast_one, bne_self_eq_false, gt_iff_lt, ge_iff_le, Int.lt_irrefl, Int.le_refl]
      refine call_k hC ?_
      simp -implicitDefEqProofs only [go_sem, reduceIte, Nat.reduceAdd, Nat.reduceSub, Nat.reduceMul, Nat.reduceLT, Nat.reduceLeDiff, Nat.reduceEqDiff, Nat.reduceBEq, Int.reduceLE, Int.reduceLT, Int.reduceToNat, Int.reduceMul, Int.reduceAdd, Int.reduceSub, Int.reduceNeg, Int.reduceEq, reduceCtorEq, Nat.reduceMod, Int.reduceBNe, Int.reduceBEq, Int.reduceGT, Int.reduceGE, Int.reduceNe, Int.cast_ofNat_Int, Int.natCast_zero, Int.natCast_one, bne_self_eq_false, gt_iff_lt, ge_iff_le, Int.lt_irrefl, Int.le_refl]
      refine call_k hN ?_
      simp -implicitDefEqProofs only [go_sem, reduceIte, Nat.reduceAdd, Nat.reduceSub, Nat.reduceMul, Nat.reduceLT, Nat.reduceLeDiff, Nat.reduceEqDiff, Nat.reduceBEq, Int.reduceLE, Int.reduceLT, Int.reduceToNat, Int.reduceMul, Int.reduceAdd, Int.reduceSub, Int.reduceNeg, Int.reduceEq, reduceCtorEq, Nat.reduceMod, Int.reduceBNe, Int.reduceBEq, Int.reduceGT, Int.reduceGE, Int.reduceNe, Int.cast_ofNat_Int, Int.natCast_zero, Int.natCast_one, bne_self_eq_false, gt_iff_lt, ge_iff_le, Int.lt_irrefl, Int.le_refl, Rec.cells, q0, opL]
  · have ev : loadS s = (0, [], 8) := by simp only [loadS, if_neg h]
    rw [chkS_bad h] at hC
    rw [ev]
    simp -implicitDefEqProofs only [go_sem, reduceIte, Nat.reduceAdd, Nat.reduceSub, Nat.reduceMul, Nat.reduceLT, Nat.reduceLeDiff, Nat.reduceEqDiff, Nat.reduceBEq, Int.reduceLE, Int.reduceLT, Int.reduceToNat, Int.reduceMul, Int.reduceAdd, Int.reduceSub, Int.reduceNeg, Int.reduceEq, reduceCtorEq, Nat.reduceMod, Int.reduceBNe, Int.reduceBEq, Int.reduceGT, Int.reduceGE, Int.reduceNe, Int.cast_ofNat_Int, Int.natCast_zero, Int.natCast_one, bne_self_eq_false, gt_iff_lt, ge_iff_le, Int.lt_irrefl, Int.le_refl]
    refine call_k hC ?_
    simp -implicitDefEqProofs only [go_sem, reduceIte, Nat.reduceAdd, Nat.reduceSub, Nat.reduceMul, Nat.reduceLT, Nat.reduceLeDiff, Nat.reduceEqDiff, Nat.reduceBEq, Int.reduceLE, Int.reduceLT, Int.reduceToNat, Int.reduceMul, Int.reduceAdd, Int.reduceSub, Int.reduceNeg, Int.reduceEq, reduceCtorEq, Nat.reduceMod, Int.reduceBNe, Int.reduceBEq, Int.reduceGT, Int.reduceGE, Int.reduceNe, Int.cast_ofNat_Int, Int.natCast_zero, Int.natCast_one, bne_self_eq_false, gt_iff_lt, ge_iff_le, Int.lt_irrefl, Int.le_refl, opL]
    try simp -implicitDefEqProofs only [go_sem, reduceIte, Nat.reduceAdd, Nat.reduceSub, Nat.reduceMul, Nat.reduceLT, Nat.reduceLeDiff, Nat.reduceEqDiff, Nat.reduceBEq, Int.reduceLE, Int.reduceLT, Int.reduceToNat, Int.reduceMul, Int.reduceAdd, Int.reduceSub, Int.reduceNeg, Int.reduceEq, reduceCtorEq, Nat.reduceMod, Int.reduceBNe, Int.reduceBEq, Int.reduceGT, Int.reduceGE, Int.reduceNe, Int.cast_ofNat_Int, Int.natCast_zero, Int.natCast_one, bne_self_eq_false, gt_iff_lt, ge_iff_le, Int.lt_irrefl, Int.le_refl, bT, List.map]
def openD (d : Dev) : Dev := ⟨d.all, [], d.cap, false⟩
def nextO (s : Slt) : Int := match newO s with
  | some r => r.num + 1
  | none => 1
def openS (s : Slt) : Slt × Int := if s.d0.check = 0 ∧ s.d1.check = 0 then (⟨openD s.d0, openD s.d1, nextO ⟨openD s.d0, openD s.d1, 0⟩⟩, 0) else (zeroS, 8)
theorem sync_open {d : Dev} (h : d.check = 0) (hd : d.down = false) : d.sync = (openD d, 0) := by
  have hu := upE_of h hd
  simp only [Dev.sync, orE, hu, if_true, openD]
theorem start_open {d : Dev} (h : d.check = 0) (hd : d.down = true) : d.start.1.sync = (openD d, 0) := by
  have ht : d.tail = [] := by
    have := h
    unfold Dev.check Dev.bad at this
    simp [hd] at this
    exact this.2.2.2
  have e : d.start = (⟨d.syn, [], d.cap, false⟩, 0) := by simp [Dev.start, h, hd]
  have hc : d.start.1.check = 0 := start_check (by rw [e])
  rw [sync_open hc (by rw [e])]
  simp [openD, e, Dev.all, ht]
theorem openD_check {d : Dev} (h : d.check = 0) : (openD d).check = 0 := by
  obtain ⟨k1, k2, k3⟩ := d.ok_of h
  refine check_of k1 k2 ?_ (fun h => by cases h)
  show ((d.all.length : Nat) : Int) + (([] : List (BitVec 8)).length : Nat) ≤ d.cap
  simp only [Dev.all, List.length_append, List.length_nil]
  omega
theorem openD_small {d : Dev} (hd : d.small) (h : d.check = 0) : (openD d).small := by
  have := d.ok_of h
  have := all_small h
  exact ⟨by show d.all.length ≤ _; omega, Nat.zero_le _⟩
theorem newO_next (a b : Dev) (n m : Int) : newO ⟨a, b, n⟩ = newO ⟨a, b, m⟩ := rfl
theorem s_open_00 (s : Slt) (hs : s.fine) (hc : s.d0.check = 0) (hc1 : s.d1.check = 0) (hd : s.d0.down = false) (hd1 : s.d1.down = false) : Spec Try.prog 27 [.agg s.cells] [] (resV ((opS (openS s)).map AV.ofT)) := by
  refine spec_k (hold mixed) b_slots_Open (opS (openS s)) ?_
  have ev : openS s = (⟨openD s.d0, openD s.d1, nextO ⟨openD s.d0, openD s.d1, 0⟩⟩, 0) := if_pos ⟨hc, hc1⟩
  have hN := s_slots_newest ⟨openD s.d0, openD s.d1, s.next⟩ (openD_check hc) (openD_check hc1)
  rw [ev]
  simp -implicitDefEqProofs only [go_sem, reduceIte, Nat.reduceAdd, Nat.reduceSub, Nat.reduceMul, Nat.reduceLT, Nat.reduceLeDiff, Nat.reduceEqDiff, Nat.reduceBEq, Int.reduceLE, Int.reduceLT, Int.reduceToNat, Int.reduceMul, Int.reduceAdd, Int.reduceSub, Int.reduceNeg, Int.reduceEq, reduceCtorEq, Nat.reduceMod, Int.reduceBNe, Int.reduceBEq, Int.reduceGT, Int.reduceGE, Int.reduceNe, Int.cast_ofNat_Int, Int.natCast_zero, Int.natCast_one, bne_self_eq_false, gt_iff_lt, ge_iff_le, Int.lt_irrefl, Int.le_refl]
  refine loop_u 3 (ln_step (by simp -implicitDefEqProofs only [go_sem, reduceIte, Nat.reduceAdd, Nat.reduceSub, Nat.reduceMul, Nat.reduceLT, Nat.reduceLeDiff, Nat.reduceEqDiff, Nat.reduceBEq, Int.reduceLE, Int.reduceLT, Int.reduceToNat, Int.reduceMul, Int.reduceAdd, Int.reduceSub, Int.reduceNeg, Int.reduceEq, reduceCtorEq, Nat.reduceMod]; rfl) fun R hR => ?_)
  simp -implicitDefEqProofs only [go_sem, reduceIte, Nat.reduceAdd, Nat.reduceSub, Nat.reduceMul, Nat.reduceLT, Nat.reduceLeDiff, Nat.reduceEqDiff, Nat.reduceBEq, Int.reduceLE, Int.reduceLT, Int.reduceToNat, Int.reduceMul, Int.reduceAdd, Int.reduceSub, Int.reduceNeg, Int.reduceEq, reduceCtorEq, Nat.reduceMod, Int.reduceBNe, Int.reduceBEq, Int.reduceGT, Int.reduceGE, Int.reduceNe, Int.cast_ofNat_Int, Int.natCast_zero, Int.natCast_one, bne_self_eq_false, gt_iff_lt, ge_iff_le, Int.lt_irrefl, Int.le_refl]
  refine call_k (s_disk_Check s.d0 hs.1) ?_
  simp -implicitDefEqProofs only [go_sem, reduceIte, Nat.reduceAdd, Nat.reduceSub, Nat.reduceMul, Nat.reduceLT, Nat.reduceLeDiff, Nat.reduceEqDiff, Nat.reduceBEq, Int.reduceLE, Int.reduceLT, Int.reduceToNat, Int.reduceMul, Int.reduceAdd, Int.reduceSub, Int.reduceNeg, Int.reduceEq, reduceCtorEq, Nat.reduceMod, Int.reduceBNe, Int.reduceBEq, Int.reduceGT, Int.reduceGE, Int.reduceNe, Int.cast_ofNat_Int, Int.natCast_zero, Int.natCast_one, bne_self_eq_false, gt_iff_lt, ge_iff_le, Int.lt_irrefl, Int.le_refl, hc, hd]
  refine call_k (s_disk_Sync s.d0 hs.1) ?_ (by simp -implicitDefEqProofs only [go_sem, reduceIte, Nat.reduceAdd, Nat.reduceSub, Nat.reduceMul, Nat.reduceLT, Nat.reduceLeDiff, Nat.reduceEqDiff, Nat.reduceBEq, Int.reduceLE, Int.reduceLT, Int.reduceToNat, Int.reduceMul, Int.reduceAdd, Int.reduceSub, Int.reduceNeg, Int.reduceEq, reduceCtorEq, Nat.reduceMod, Dev.cells, hd])
  rw [sync_open hc hd]
  simp -implicitDefEqProofs only [go_sem, reduceIte, Nat.reduceAdd, Nat.reduceSub, Nat.reduceMul, Nat.reduceLT, Nat.reduceLeDiff, Nat.reduceEqDiff, Nat.reduceBEq, Int.reduceLE, Int.reduceLT, Int.reduceToNat, Int.reduceMul, Int.reduceAdd, Int.reduceSub, Int.reduceNeg, Int.reduceEq, reduceCtorEq, Nat.reduceMod, Int.reduceBNe, Int.reduceBEq, Int.reduceGT, Int.reduceGE, Int.reduceNe, Int.cast_ofNat_Int, Int.natCast_zero, Int.natCast_one, bne_self_eq_false, gt_iff_lt, ge_iff_le, Int.lt_irrefl, Int.le_refl, opR, openD]
  refine hR _ (ln_step (by simp -implicitDefEqProofs only [go_sem, reduceIte, Nat.reduceAdd, Nat.reduceSub, Nat.reduceMul, Nat.reduceLT, Nat.reduceLeDiff, Nat.reduceEqDiff, Nat.reduceBEq, Int.reduceLE, Int.reduceLT, Int.reduceToNat, Int.reduceMul, Int.reduceAdd, Int.reduceSub, Int.reduceNeg, Int.reduceEq, reduceCtorEq, Nat.reduceMod]; rfl) fun R2 hR2 => ?_)
  simp -implicitDefEqProofs only [go_sem, reduceIte, Nat.reduceAdd, Nat.reduceSub, Nat.reduceMul, Nat.reduceLT, Nat.reduceLeDiff, Nat.reduceEqDiff, Nat.reduceBEq, Int.reduceLE, Int.reduceLT, Int.reduceToNat, Int.reduceMul, Int.reduceAdd, Int.reduceSub, Int.reduceNeg, Int.reduceEq, reduceCtorEq, Nat.reduceMod, Int.reduceBNe, Int.reduceBEq, Int.reduceGT, Int.reduceGE, Int.reduceNe, Int.cast_ofNat_Int, Int.natCast_zero, Int.natCast_one, bne_self_eq_false, gt_iff_lt, ge_iff_le, Int.lt_irrefl, Int.le_refl]
  refine call_k (s_disk_Check s.d1 hs.2.1) ?_
  simp -implicitDefEqProofs only [go_sem, reduceIte, Nat.reduceAdd, Nat.reduceSub, Nat.reduceMul, Nat.reduceLT, Nat.reduceLeDiff, Nat.reduceEqDiff, Nat.reduceBEq, Int.reduceLE, Int.reduceLT, Int.reduceToNat, Int.reduceMul, Int.reduceAdd, Int.reduceSub, Int.reduceNeg, Int.reduceEq, reduceCtorEq, Nat.reduceMod, Int.reduceBNe, Int.reduceBEq, Int.reduceGT, Int.reduceGE, Int.reduceNe, Int.cast_ofNat_Int, Int.natCast_zero, Int.natCast_one, bne_self_eq_false, gt_iff_lt, ge_iff_le, Int.lt_irrefl, Int.le_refl, hc1, hd1]
  refine call_k (s_disk_Sync s.d1 hs.2.1) ?_ (by simp -implicitDefEqProofs only [go_sem, reduceIte, Nat.reduceAdd, Nat.reduceSub, Nat.reduceMul, Nat.reduceLT, Nat.reduceLeDiff, Nat.reduceEqDiff, Nat.reduceBEq, Int.reduceLE, Int.reduceLT, Int.reduceToNat, Int.reduceMul, Int.reduceAdd, Int.reduceSub, Int.reduceNeg, Int.reduceEq, reduceCtorEq, Nat.reduceMod, Dev.cells, hd1])
  rw [sync_open hc1 hd1]
  simp -implicitDefEqProofs only [go_sem, reduceIte, Nat.reduceAdd, Nat.reduceSub, Nat.reduceMul, Nat.reduceLT, Nat.reduceLeDiff, Nat.reduceEqDiff, Nat.reduceBEq, Int.reduceLE, Int.reduceLT, Int.reduceToNat, Int.reduceMul, Int.reduceAdd, Int.reduceSub, Int.reduceNeg, Int.reduceEq, reduceCtorEq, Nat.reduceMod, Int.reduceBNe, Int.reduceBEq, Int.reduceGT, Int.reduceGE, Int.reduceNe, Int.cast_ofNat_Int, Int.natCast_zero, Int.natCast_one, bne_self_eq_false, gt_iff_lt, ge_iff_le, Int.lt_irrefl, Int.le_refl, opR, openD]
  refine hR2 _ (ln_step (by simp -implicitDefEqProofs only [go_sem, reduceIte, Nat.reduceAdd, Nat.reduceSub, Nat.reduceMul, Nat.reduceLT, Nat.reduceLeDiff, Nat.reduceEqDiff, Nat.reduceBEq, Int.reduceLE, Int.reduceLT, Int.reduceToNat, Int.reduceMul, Int.reduceAdd, Int.reduceSub, Int.reduceNeg, Int.reduceEq, reduceCtorEq, Nat.reduceMod]; rfl) fun R3 hR3 => ?_)
  simp -implicitDefEqProofs only [go_sem, reduceIte, Nat.reduceAdd, Nat.reduceSub, Nat.reduceMul, Nat.reduceLT, Nat.reduceLeDiff, Nat.reduceEqDiff, Nat.reduceBEq, Int.reduceLE, Int.reduceLT, Int.reduceToNat, Int.reduceMul, Int.reduceAdd, Int.reduceSub, Int.reduceNeg, Int.reduceEq, reduceCtorEq, Nat.reduceMod, Int.reduceBNe, Int.reduceBEq, Int.reduceGT, Int.reduceGE, Int.reduceNe, Int.cast_ofNat_Int, Int.natCast_zero, Int.natCast_one, bne_self_eq_false, gt_iff_lt, ge_iff_le, Int.lt_irrefl, Int.le_refl]
  refine call_k hN ?_ (by simp -implicitDefEqProofs only [go_sem, reduceIte, Nat.reduceAdd, Nat.reduceSub, Nat.reduceMul, Nat.reduceLT, Nat.reduceLeDiff, Nat.reduceEqDiff, Nat.reduceBEq, Int.reduceLE, Int.reduceLT, Int.reduceToNat, Int.reduceMul, Int.reduceAdd, Int.reduceSub, Int.reduceNeg, Int.reduceEq, reduceCtorEq, Nat.reduceMod, openD])
  cases ho : newO ⟨openD s.d0, openD s.d1, s.next⟩ with
  | none =>
    have eb : newB ⟨openD s.d0, openD s.d1, s.next⟩ = ⟨-1, []⟩ := by simp [newB, ho]
    have en : nextO ⟨openD s.d0, openD s.d1, 0⟩ = 1 := by simp only [nextO, newO_next _ _ 0 s.next, ho]
    rw [eb, en]
    simp -implicitDefEqProofs only [go_sem, reduceIte, Nat.reduceAdd, Nat.reduceSub, Nat.reduceMul, Nat.reduceLT, Nat.reduceLeDiff, Nat.reduceEqDiff, Nat.reduceBEq, Int.reduceLE, Int.reduceLT, Int.reduceToNat, Int.reduceMul, Int.reduceAdd, Int.reduceSub, Int.reduceNeg, Int.reduceEq, reduceCtorEq, Nat.reduceMod, Int.reduceBNe, Int.reduceBEq, Int.reduceGT, Int.reduceGE, Int.reduceNe, Int.cast_ofNat_Int, Int.natCast_zero, Int.natCast_one, bne_self_eq_false, gt_iff_lt, ge_iff_le, Int.lt_irrefl, Int.le_refl, Rec.cells, opS, openD]
  | some r =>
    obtain ⟨p0, p1, p2⟩ := newO_ok ho
    have eb : newB ⟨openD s.d0, openD s.d1, s.next⟩ = r := by simp [newB, ho]
    have en : nextO ⟨openD s.d0, openD s.d1, 0⟩ = r.num + 1 := by simp only [nextO, newO_next _ _ 0 s.next, ho]
    have w1 : IntKind.i64.wrap (r.num + 1) = r.num + 1 := wrap_i64_id (by omega) (by omega)
    rw [eb, en]
    by_cases hz : 0 < r.num
    · simp -implicitDefEqProofs only [go_sem, reduceIte, Nat.reduceAdd, Nat.reduceSub, Nat.reduceMul, Nat.reduceLT, Nat.reduceLeDiff, Nat.reduceEqDiff, Nat.reduceBEq, Int.reduceLE, Int.reduceLT, Int.reduceToNat, Int.reduceMul, Int.reduceAdd, Int.reduceSub, Int.reduceNeg, Int.reduceEq, reduceCtorEq, Nat.reduceMod, Int.reduceBNe, Int.reduceBEq, Int.reduceGT, Int.reduceGE, Int.reduceNe, Int.cast_ofNat_Int, Int.natCast_zero, Int.natCast_one, bne_self_eq_false, gt_iff_lt, ge_iff_le, Int.lt_irrefl, Int.le_refl, Rec.cells, hz, w1, opS, openD]
    · have hz0 : r.num = 0 := by omega
      simp -implicitDefEqProofs only [go_sem, reduceIte, Nat.reduceAdd, Nat.reduceSub, Nat.reduceMul, Nat.reduceLT, Nat.reduceLeDiff, Nat.reduceEqDiff, Nat.reduceBEq, Int.reduceLE, Int.reduceLT, Int.reduceToNat, Int.reduceMul, Int.reduceAdd, Int.reduceSub, Int.reduceNeg, Int.reduceEq, reduceCtorEq, Nat.reduceMod, Int.reduceBNe, Int.reduceBEq, Int.reduceGT, Int.reduceGE, Int.reduceNe, Int.cast_ofNat_Int, Int.natCast_zero, Int.natCast_one, bne_self_eq_false, gt_iff_lt, ge_iff_le, Int.lt_irrefl, Int.le_refl, Rec.cells, hz0, opS, openD]
theorem s_open_01 (s : Slt) (hs : s.fine) (hc : s.d0.check = 0) (hc1 : s.d1.check = 0) (hd : s.d0.down = false) (hd1 : s.d1.down = true) : Spec Try.prog 27 [.agg s.cells] [] (resV ((opS (openS s)).map AV.ofT)) := by
  refine spec_k (hold mixed) b_slots_Open (opS (openS s)) ?_
  have ev : openS s = (⟨openD s.d0, openD s.d1, nextO ⟨openD s.d0, openD s.d1, 0⟩⟩, 0) := if_pos ⟨hc, hc1⟩
  have hN := s_slots_newest ⟨openD s.d0, openD s.d1, s.next⟩ (openD_check hc) (openD_check hc1)
  rw [ev]
  simp -implicitDefEqProofs only [go_sem, reduceIte, Nat.reduceAdd, Nat.reduceSub, Nat.reduceMul, Nat.reduceLT, Nat.reduceLeDiff, Nat.reduceEqDiff, Nat.reduceBEq, Int.reduceLE, Int.reduceLT, Int.reduceToNat, Int.reduceMul, Int.reduceAdd, Int.reduceSub, Int.reduceNeg, Int.reduceEq, reduceCtorEq, Nat.reduceMod, Int.reduceBNe, Int.reduceBEq, Int.reduceGT, Int.reduceGE, Int.reduceNe, Int.cast_ofNat_Int, Int.natCast_zero, Int.natCast_one, bne_self_eq_false, gt_iff_lt, ge_iff_le, Int.lt_irrefl, Int.le_refl]
  refine loop_u 3 (ln_step (by simp -implicitDefEqProofs only [go_sem, reduceIte, Nat.reduceAdd, Nat.reduceSub, Nat.reduceMul, Nat.reduceLT, Nat.reduceLeDiff, Nat.reduceEqDiff, Nat.reduceBEq, Int.reduceLE, Int.reduceLT, Int.reduceToNat, Int.reduceMul, Int.reduceAdd, Int.reduceSub, Int.reduceNeg, Int.reduceEq, reduceCtorEq, Nat.reduceMod]; rfl) fun R hR => ?_)
  simp -implicitDefEqProofs only [go_sem, reduceIte, Nat.reduceAdd, Nat.reduceSub, Nat.reduceMul, Nat.reduceLT, Nat.reduceLeDiff, Nat.reduceEqDiff, Nat.reduceBEq, Int.reduceLE, Int.reduceLT, Int.reduceToNat, Int.reduceMul, Int.reduceAdd, Int.reduceSub, Int.reduceNeg, Int.reduceEq, reduceCtorEq, Nat.reduceMod, Int.reduceBNe, Int.reduceBEq, Int.reduceGT, Int.reduceGE, Int.reduceNe, Int.cast_ofNat_Int, Int.natCast_zero, Int.natCast_one, bne_self_eq_false, gt_iff_lt, ge_iff_le, Int.lt_irrefl, Int.le_refl]
  refine call_k (s_disk_Check s.d0 hs.1) ?_
  simp -implicitDefEqProofs only [go_sem, reduceIte, Nat.reduceAdd, Nat.reduceSub, Nat.reduceMul, Nat.reduceLT, Nat.reduceLeDiff, Nat.reduceEqDiff, Nat.reduceBEq, Int.reduceLE, Int.reduceLT, Int.reduceToNat, Int.reduceMul, Int.reduceAdd, Int.reduceSub, Int.reduceNeg, Int.reduceEq, reduceCtorEq, Nat.reduceMod, Int.reduceBNe, Int.reduceBEq, Int.reduceGT, Int.reduceGE, Int.reduceNe, Int.cast_ofNat_Int, Int.natCast_zero, Int.natCast_one, bne_self_eq_false, gt_iff_lt, ge_iff_le, Int.lt_irrefl, Int.le_refl, hc, hd]
  refine call_k (s_disk_Sync s.d0 hs.1) ?_ (by simp -implicitDefEqProofs only [go_sem, reduceIte, Nat.reduceAdd, Nat.reduceSub, Nat.reduceMul, Nat.reduceLT, Nat.reduceLeDiff, Nat.reduceEqDiff, Nat.reduceBEq, Int.reduceLE, Int.reduceLT, Int.reduceToNat, Int.reduceMul, Int.reduceAdd, Int.reduceSub, Int.reduceNeg, Int.reduceEq, reduceCtorEq, Nat.reduceMod, Dev.cells, hd])
  rw [sync_open hc hd]
  simp -implicitDefEqProofs only [go_sem, reduceIte, Nat.reduceAdd, Nat.reduceSub, Nat.reduceMul, Nat.reduceLT, Nat.reduceLeDiff, Nat.reduceEqDiff, Nat.reduceBEq, Int.reduceLE, Int.reduceLT, Int.reduceToNat, Int.reduceMul, Int.reduceAdd, Int.reduceSub, Int.reduceNeg, Int.reduceEq, reduceCtorEq, Nat.reduceMod, Int.reduceBNe, Int.reduceBEq, Int.reduceGT, Int.reduceGE, Int.reduceNe, Int.cast_ofNat_Int, Int.natCast_zero, Int.natCast_one, bne_self_eq_false, gt_iff_lt, ge_iff_le, Int.lt_irrefl, Int.le_refl, opR, openD]
  refine hR _ (ln_step (by simp -implicitDefEqProofs only [go_sem, reduceIte, Nat.reduceAdd, Nat.reduceSub, Nat.reduceMul, Nat.reduceLT, Nat.reduceLeDiff, Nat.reduceEqDiff, Nat.reduceBEq, Int.reduceLE, Int.reduceLT, Int.reduceToNat, Int.reduceMul, Int.reduceAdd, Int.reduceSub, Int.reduceNeg, Int.reduceEq, reduceCtorEq, Nat.reduceMod]; rfl) fun R2 hR2 => ?_)
  simp -implicitDefEqProofs only [go_sem, reduceIte, Nat.reduceAdd, Nat.reduceSub, Nat.reduceMul, Nat.reduceLT, Nat.reduceLeDiff, Nat.reduceEqDiff, Nat.reduceBEq, Int.reduceLE, Int.reduceLT, Int.reduceToNat, Int.reduceMul, Int.reduceAdd, Int.reduceSub, Int.reduceNeg, Int.reduceEq, reduceCtorEq, Nat.reduceMod, Int.reduceBNe, Int.reduceBEq, Int.reduceGT, Int.reduceGE, Int.reduceNe, Int.cast_ofNat_Int, Int.natCast_zero, Int.natCast_one, bne_self_eq_false, gt_iff_lt, ge_iff_le, Int.lt_irrefl, Int.le_refl]
  refine call_k (s_disk_Check s.d1 hs.2.1) ?_
  simp -implicitDefEqProofs only [go_sem, reduceIte, Nat.reduceAdd, Nat.reduceSub, Nat.reduceMul, Nat.reduceLT, Nat.reduceLeDiff, Nat.reduceEqDiff, Nat.reduceBEq, Int.reduceLE, Int.reduceLT, Int.reduceToNat, Int.reduceMul, Int.reduceAdd, Int.reduceSub, Int.reduceNeg, Int.reduceEq, reduceCtorEq, Nat.reduceMod, Int.reduceBNe, Int.reduceBEq, Int.reduceGT, Int.reduceGE, Int.reduceNe, Int.cast_ofNat_Int, Int.natCast_zero, Int.natCast_one, bne_self_eq_false, gt_iff_lt, ge_iff_le, Int.lt_irrefl, Int.le_refl, hc1, hd1]
  refine call_k (s_disk_Start s.d1 hs.2.1) ?_ (by simp -implicitDefEqProofs only [go_sem, reduceIte, Nat.reduceAdd, Nat.reduceSub, Nat.reduceMul, Nat.reduceLT, Nat.reduceLeDiff, Nat.reduceEqDiff, Nat.reduceBEq, Int.reduceLE, Int.reduceLT, Int.reduceToNat, Int.reduceMul, Int.reduceAdd, Int.reduceSub, Int.reduceNeg, Int.reduceEq, reduceCtorEq, Nat.reduceMod, Dev.cells, hd1])
  simp -implicitDefEqProofs only [go_sem, reduceIte, Nat.reduceAdd, Nat.reduceSub, Nat.reduceMul, Nat.reduceLT, Nat.reduceLeDiff, Nat.reduceEqDiff, Nat.reduceBEq, Int.reduceLE, Int.reduceLT, Int.reduceToNat, Int.reduceMul, Int.reduceAdd, Int.reduceSub, Int.reduceNeg, Int.reduceEq, reduceCtorEq, Nat.reduceMod, Int.reduceBNe, Int.reduceBEq, Int.reduceGT, Int.reduceGE, Int.reduceNe, Int.cast_ofNat_Int, Int.natCast_zero, Int.natCast_one, bne_self_eq_false, gt_iff_lt, ge_iff_le, Int.lt_irrefl, Int.le_refl, opR]
  refine call_k (s_disk_Sync s.d1.start.1 (start_small _)) ?_
  rw [start_open hc1 hd1]
  simp -implicitDefEqProofs only [go_sem, reduceIte, Nat.reduceAdd, Nat.reduceSub, Nat.reduceMul, Nat.reduceLT, Nat.reduceLeDiff, Nat.reduceEqDiff, Nat.reduceBEq, Int.reduceLE, Int.reduceLT, Int.reduceToNat, Int.reduceMul, Int.reduceAdd, Int.reduceSub, Int.reduceNeg, Int.reduceEq, reduceCtorEq, Nat.reduceMod, Int.reduceBNe, Int.reduceBEq, Int.reduceGT, Int.reduceGE, Int.reduceNe, Int.cast_ofNat_Int, Int.natCast_zero, Int.natCast_one, bne_self_eq_false, gt_iff_lt, ge_iff_le, Int.lt_irrefl, Int.le_refl, opR, openD]
  refine hR2 _ (ln_step (by simp -implicitDefEqProofs only [go_sem, reduceIte, Nat.reduceAdd, Nat.reduceSub, Nat.reduceMul, Nat.reduceLT, Nat.reduceLeDiff, Nat.reduceEqDiff, Nat.reduceBEq, Int.reduceLE, Int.reduceLT, Int.reduceToNat, Int.reduceMul, Int.reduceAdd, Int.reduceSub, Int.reduceNeg, Int.reduceEq, reduceCtorEq, Nat.reduceMod]; rfl) fun R3 hR3 => ?_)
  simp -implicitDefEqProofs only [go_sem, reduceIte, Nat.reduceAdd, Nat.reduceSub, Nat.reduceMul, Nat.reduceLT, Nat.reduceLeDiff, Nat.reduceEqDiff, Nat.reduceBEq, Int.reduceLE, Int.reduceLT, Int.reduceToNat, Int.reduceMul, Int.reduceAdd, Int.reduceSub, Int.reduceNeg, Int.reduceEq, reduceCtorEq, Nat.reduceMod, Int.reduceBNe, Int.reduceBEq, Int.reduceGT, Int.reduceGE, Int.reduceNe, Int.cast_ofNat_Int, Int.natCast_zero, Int.natCast_one, bne_self_eq_false, gt_iff_lt, ge_iff_le, Int.lt_irrefl, Int.le_refl]
  refine call_k hN ?_ (by simp -implicitDefEqProofs only [go_sem, reduceIte, Nat.reduceAdd, Nat.reduceSub, Nat.reduceMul, Nat.reduceLT, Nat.reduceLeDiff, Nat.reduceEqDiff, Nat.reduceBEq, Int.reduceLE, Int.reduceLT, Int.reduceToNat, Int.reduceMul, Int.reduceAdd, Int.reduceSub, Int.reduceNeg, Int.reduceEq, reduceCtorEq, Nat.reduceMod, openD])
  cases ho : newO ⟨openD s.d0, openD s.d1, s.next⟩ with
  | none =>
    have eb : newB ⟨openD s.d0, openD s.d1, s.next⟩ = ⟨-1, []⟩ := by simp [newB, ho]
    have en : nextO ⟨openD s.d0, openD s.d1, 0⟩ = 1 := by simp only [nextO, newO_next _ _ 0 s.next, ho]
    rw [eb, en]
    simp -implicitDefEqProofs only [go_sem, reduceIte, Nat.reduceAdd, Nat.reduceSub, Nat.reduceMul, Nat.reduceLT, Nat.reduceLeDiff, Nat.reduceEqDiff, Nat.reduceBEq, Int.reduceLE, Int.reduceLT, Int.reduceToNat, Int.reduceMul, Int.reduceAdd, Int.reduceSub, Int.reduceNeg, Int.reduceEq, reduceCtorEq, Nat.reduceMod, Int.reduceBNe, Int.reduceBEq, Int.reduceGT, Int.reduceGE, Int.reduceNe, Int.cast_ofNat_Int, Int.natCast_zero, Int.natCast_one, bne_self_eq_false, gt_iff_lt, ge_iff_le, Int.lt_irrefl, Int.le_refl, Rec.cells, opS, openD]
  | some r =>
    obtain ⟨p0, p1, p2⟩ := newO_ok ho
    have eb : newB ⟨openD s.d0, openD s.d1, s.next⟩ = r := by simp [newB, ho]
    have en : nextO ⟨openD s.d0, openD s.d1, 0⟩ = r.num + 1 := by simp only [nextO, newO_next _ _ 0 s.next, ho]
    have w1 : IntKind.i64.wrap (r.num + 1) = r.num + 1 := wrap_i64_id (by omega) (by omega)
    rw [eb, en]
    by_cases hz : 0 < r.num
    · simp -implicitDefEqProofs only [go_sem, reduceIte, Nat.reduceAdd, Nat.reduceSub, Nat.reduceMul, Nat.reduceLT, Nat.reduceLeDiff, Nat.reduceEqDiff, Nat.reduceBEq, Int.reduceLE, Int.reduceLT, Int.reduceToNat, Int.reduceMul, Int.reduceAdd, Int.reduceSub, Int.reduceNeg, Int.reduceEq, reduceCtorEq, Nat.reduceMod, Int.reduceBNe, Int.reduceBEq, Int.reduceGT, Int.reduceGE, Int.reduceNe, Int.cast_ofNat_Int, Int.natCast_zero, Int.natCast_one, bne_self_eq_false, gt_iff_lt, ge_iff_le, Int.lt_irrefl, Int.le_refl, Rec.cells, hz, w1, opS, openD]
    · have hz0 : r.num = 0 := by omega
      simp -implicitDefEqProofs only [go_sem, reduceIte, Nat.reduceAdd, Nat.reduceSub, Nat.reduceMul, Nat.reduceLT, Nat.reduceLeDiff, Nat.reduceEqDiff, Nat.reduceBEq, Int.reduceLE, Int.reduceLT, Int.reduceToNat, Int.reduceMul, Int.reduceAdd, Int.reduceSub, Int.reduceNeg, Int.reduceEq, reduceCtorEq, Nat.reduceMod, Int.reduceBNe, Int.reduceBEq, Int.reduceGT, Int.reduceGE, Int.reduceNe, Int.cast_ofNat_Int, Int.natCast_zero, Int.natCast_one, bne_self_eq_false, gt_iff_lt, ge_iff_le, Int.lt_irrefl, Int.le_refl, Rec.cells, hz0, opS, openD]
theorem s_open_10 (s : Slt) (hs : s.fine) (hc : s.d0.check = 0) (hc1 : s.d1.check = 0) (hd : s.d0.down = true) (hd1 : s.d1.down = false) : Spec Try.prog 27 [.agg s.cells] [] (resV ((opS (openS s)).map AV.ofT)) := by
  refine spec_k (hold mixed) b_slots_Open (opS (openS s)) ?_
  have ev : openS s = (⟨openD s.d0, openD s.d1, nextO ⟨openD s.d0, openD s.d1, 0⟩⟩, 0) := if_pos ⟨hc, hc1⟩
  have hN := s_slots_newest ⟨openD s.d0, openD s.d1, s.next⟩ (openD_check hc) (openD_check hc1)
  rw [ev]
  simp -implicitDefEqProofs only [go_sem, reduceIte, Nat.reduceAdd, Nat.reduceSub, Nat.reduceMul, Nat.reduceLT, Nat.reduceLeDiff, Nat.reduceEqDiff, Nat.reduceBEq, Int.reduceLE, Int.reduceLT, Int.reduceToNat, Int.reduceMul, Int.reduceAdd, Int.reduceSub, Int.reduceNeg, Int.reduceEq, reduceCtorEq, Nat.reduceMod, Int.reduceBNe, Int.reduceBEq, Int.reduceGT, Int.reduceGE, Int.reduceNe, Int.cast_ofNat_Int, Int.natCast_zero, Int.natCast_one, bne_self_eq_false, gt_iff_lt, ge_iff_le, Int.lt_irrefl, Int.le_refl]
  refine loop_u 3 (ln_step (by simp -implicitDefEqProofs only [go_sem, reduceIte, Nat.reduceAdd, Nat.reduceSub, Nat.reduceMul, Nat.reduceLT, Nat.reduceLeDiff, Nat.reduceEqDiff, Nat.reduceBEq, Int.reduceLE, Int.reduceLT, Int.reduceToNat, Int.reduceMul, Int.reduceAdd, Int.reduceSub, Int.reduceNeg, Int.reduceEq, reduceCtorEq, Nat.reduceMod]; rfl) fun R hR => ?_)
  simp -implicitDefEqProofs only [go_sem, reduceIte, Nat.reduceAdd, Nat.reduceSub, Nat.reduceMul, Nat.reduceLT, Nat.reduceLeDiff, Nat.reduceEqDiff, Nat.reduceBEq, Int.reduceLE, Int.reduceLT, Int.reduceToNat, Int.reduceMul, Int.reduceAdd, Int.reduceSub, Int.reduceNeg, Int.reduceEq, reduceCtorEq, Nat.reduceMod, Int.reduceBNe, Int.reduceBEq, Int.reduceGT, Int.reduceGE, Int.reduceNe, Int.cast_ofNat_Int, Int.natCast_zero, Int.natCast_one, bne_self_eq_false, gt_iff_lt, ge_iff_le, Int.lt_irrefl, Int.le_refl]
  refine call_k (s_disk_Check s.d0 hs.1) ?_
  simp -implicitDefEqProofs only [go_sem, reduceIte, Nat.reduceAdd, Nat.reduceSub, Nat.reduceMul, Nat.reduceLT, Nat.reduceLeDiff, Nat.reduceEqDiff, Nat.reduceBEq, Int.reduceLE, Int.reduceLT, Int.reduceToNat, Int.reduceMul, Int.reduceAdd, Int.reduceSub, Int.reduceNeg, Int.reduceEq, reduceCtorEq, Nat.reduceMod, Int.reduceBNe, Int.reduceBEq, Int.reduceGT, Int.reduceGE, Int.reduceNe, Int.cast_ofNat_Int, Int.natCast_zero, Int.natCast_one, bne_self_eq_false, gt_iff_lt, ge_iff_le, Int.lt_irrefl, Int.le_refl, hc, hd]
  refine call_k (s_disk_Start s.d0 hs.1) ?_ (by simp -implicitDefEqProofs only [go_sem, reduceIte, Nat.reduceAdd, Nat.reduceSub, Nat.reduceMul, Nat.reduceLT, Nat.reduceLeDiff, Nat.reduceEqDiff, Nat.reduceBEq, Int.reduceLE, Int.reduceLT, Int.reduceToNat, Int.reduceMul, Int.reduceAdd, Int.reduceSub, Int.reduceNeg, Int.reduceEq, reduceCtorEq, Nat.reduceMod, Dev.cells, hd])
  simp -implicitDefEqProofs only [go_sem, reduceIte, Nat.reduceAdd, Nat.reduceSub, Nat.reduceMul, Nat.reduceLT, Nat.reduceLeDiff, Nat.reduceEqDiff, Nat.reduceBEq, Int.reduceLE, Int.reduceLT, Int.reduceToNat, Int.reduceMul, Int.reduceAdd, Int.reduceSub, Int.reduceNeg, Int.reduceEq, reduceCtorEq, Nat.reduceMod, Int.reduceBNe, Int.reduceBEq, Int.reduceGT, Int.reduceGE, Int.reduceNe, Int.cast_ofNat_Int, Int.natCast_zero, Int.natCast_one, bne_self_eq_false, gt_iff_lt, ge_iff_le, Int.lt_irrefl, Int.le_refl, opR]
  refine call_k (s_disk_Sync s.d0.start.1 (start_small _)) ?_
  rw [start_open hc hd]
  simp -implicitDefEqProofs only [go_sem, reduceIte, Nat.reduceAdd, Nat.reduceSub, Nat.reduceMul, Nat.reduceLT, Nat.reduceLeDiff, Nat.reduceEqDiff, Nat.reduceBEq, Int.reduceLE, Int.reduceLT, Int.reduceToNat, Int.reduceMul, Int.reduceAdd, Int.reduceSub, Int.reduceNeg, Int.reduceEq, reduceCtorEq, Nat.reduceMod, Int.reduceBNe, Int.reduceBEq, Int.reduceGT, Int.reduceGE, Int.reduceNe, Int.cast_ofNat_Int, Int.natCast_zero, Int.natCast_one, bne_self_eq_false, gt_iff_lt, ge_iff_le, Int.lt_irrefl, Int.le_refl, opR, openD]
  refine hR _ (ln_step (by simp -implicitDefEqProofs only [go_sem, reduceIte, Nat.reduceAdd, Nat.reduceSub, Nat.reduceMul, Nat.reduceLT, Nat.reduceLeDiff, Nat.reduceEqDiff, Nat.reduceBEq, Int.reduceLE, Int.reduceLT, Int.reduceToNat, Int.reduceMul, Int.reduceAdd, Int.reduceSub, Int.reduceNeg, Int.reduceEq, reduceCtorEq, Nat.reduceMod]; rfl) fun R2 hR2 => ?_)
  simp -implicitDefEqProofs only [go_sem, reduceIte, Nat.reduceAdd, Nat.reduceSub, Nat.reduceMul, Nat.reduceLT, Nat.reduceLeDiff, Nat.reduceEqDiff, Nat.reduceBEq, Int.reduceLE, Int.reduceLT, Int.reduceToNat, Int.reduceMul, Int.reduceAdd, Int.reduceSub, Int.reduceNeg, Int.reduceEq, reduceCtorEq, Nat.reduceMod, Int.reduceBNe, Int.reduceBEq, Int.reduceGT, Int.reduceGE, Int.reduceNe, Int.cast_ofNat_Int, Int.natCast_zero, Int.natCast_one, bne_self_eq_false, gt_iff_lt, ge_iff_le, Int.lt_irrefl, Int.le_refl]
  refine call_k (s_disk_Check s.d1 hs.2.1) ?_
  simp -implicitDefEqProofs only [go_sem, reduceIte, Nat.reduceAdd, Nat.reduceSub, Nat.reduceMul, Nat.reduceLT, Nat.reduceLeDiff, Nat.reduceEqDiff, Nat.reduceBEq, Int.reduceLE, Int.reduceLT, Int.reduceToNat, Int.reduceMul, Int.reduceAdd, Int.reduceSub, Int.reduceNeg, Int.reduceEq, reduceCtorEq, Nat.reduceMod, Int.reduceBNe, Int.reduceBEq, Int.reduceGT, Int.reduceGE, Int.reduceNe, Int.cast_ofNat_Int, Int.natCast_zero, Int.natCast_one, bne_self_eq_false, gt_iff_lt, ge_iff_le, Int.lt_irrefl, Int.le_refl, hc1, hd1]
  refine call_k (s_disk_Sync s.d1 hs.2.1) ?_ (by simp -implicitDefEqProofs only [go_sem, reduceIte, Nat.reduceAdd, Nat.reduceSub, Nat.reduceMul, Nat.reduceLT, Nat.reduceLeDiff, Nat.reduceEqDiff, Nat.reduceBEq, Int.reduceLE, Int.reduceLT, Int.reduceToNat, Int.reduceMul, Int.reduceAdd, Int.reduceSub, Int.reduceNeg, Int.reduceEq, reduceCtorEq, Nat.reduceMod, Dev.cells, hd1])
  rw [sync_open hc1 hd1]
  simp -implicitDefEqProofs only [go_sem, reduceIte, Nat.reduceAdd, Nat.reduceSub, Nat.reduceMul, Nat.reduceLT, Nat.reduceLeDiff, Nat.reduceEqDiff, Nat.reduceBEq, Int.reduceLE, Int.reduceLT, Int.reduceToNat, Int.reduceMul, Int.reduceAdd, Int.reduceSub, Int.reduceNeg, Int.reduceEq, reduceCtorEq, Nat.reduceMod, Int.reduceBNe, Int.reduceBEq, Int.reduceGT, Int.reduceGE, Int.reduceNe, Int.cast_ofNat_Int, Int.natCast_zero, Int.natCast_one, bne_self_eq_false, gt_iff_lt, ge_iff_le, Int.lt_irrefl, Int.le_refl, opR, openD]
  refine hR2 _ (ln_step (by simp -implicitDefEqProofs only [go_sem, reduceIte, Nat.reduceAdd, Nat.reduceSub, Nat.reduceMul, Nat.reduceLT, Nat.reduceLeDiff, Nat.reduceEqDiff, Nat.reduceBEq, Int.reduceLE, Int.reduceLT, Int.reduceToNat, Int.reduceMul, Int.reduceAdd, Int.reduceSub, Int.reduceNeg, Int.reduceEq, reduceCtorEq, Nat.reduceMod]; rfl) fun R3 hR3 => ?_)
  simp -implicitDefEqProofs only [go_sem, reduceIte, Nat.reduceAdd, Nat.reduceSub, Nat.reduceMul, Nat.reduceLT, Nat.reduceLeDiff, Nat.reduceEqDiff, Nat.reduceBEq, Int.reduceLE, Int.reduceLT, Int.reduceToNat, Int.reduceMul, Int.reduceAdd, Int.reduceSub, Int.reduceNeg, Int.reduceEq, reduceCtorEq, Nat.reduceMod, Int.reduceBNe, Int.reduceBEq, Int.reduceGT, Int.reduceGE, Int.reduceNe, Int.cast_ofNat_Int, Int.natCast_zero, Int.natCast_one, bne_self_eq_false, gt_iff_lt, ge_iff_le, Int.lt_irrefl, Int.le_refl]
  refine call_k hN ?_ (by simp -implicitDefEqProofs only [go_sem, reduceIte, Nat.reduceAdd, Nat.reduceSub, Nat.reduceMul, Nat.reduceLT, Nat.reduceLeDiff, Nat.reduceEqDiff, Nat.reduceBEq, Int.reduceLE, Int.reduceLT, Int.reduceToNat, Int.reduceMul, Int.reduceAdd, Int.reduceSub, Int.reduceNeg, Int.reduceEq, reduceCtorEq, Nat.reduceMod, openD])
  cases ho : newO ⟨openD s.d0, openD s.d1, s.next⟩ with
  | none =>
    have eb : newB ⟨openD s.d0, openD s.d1, s.next⟩ = ⟨-1, []⟩ := by simp [newB, ho]
    have en : nextO ⟨openD s.d0, openD s.d1, 0⟩ = 1 := by simp only [nextO, newO_next _ _ 0 s.next, ho]
    rw [eb, en]
    simp -implicitDefEqProofs only [go_sem, reduceIte, Nat.reduceAdd, Nat.reduceSub, Nat.reduceMul, Nat.reduceLT, Nat.reduceLeDiff, Nat.reduceEqDiff, Nat.reduceBEq, Int.reduceLE, Int.reduceLT, Int.reduceToNat, Int.reduceMul, Int.reduceAdd, Int.reduceSub, Int.reduceNeg, Int.reduceEq, reduceCtorEq, Nat.reduceMod, Int.reduceBNe, Int.reduceBEq, Int.reduceGT, Int.reduceGE, Int.reduceNe, Int.cast_ofNat_Int, Int.natCast_zero, Int.natCast_one, bne_self_eq_false, gt_iff_lt, ge_iff_le, Int.lt_irrefl, Int.le_refl, Rec.cells, opS, openD]
  | some r =>
    obtain ⟨p0, p1, p2⟩ := newO_ok ho
    have eb : newB ⟨openD s.d0, openD s.d1, s.next⟩ = r := by simp [newB, ho]
    have en : nextO ⟨openD s.d0, openD s.d1, 0⟩ = r.num + 1 := by simp only [nextO, newO_next _ _ 0 s.next, ho]
    have w1 : IntKind.i64.wrap (r.num + 1) = r.num + 1 := wrap_i64_id (by omega) (by omega)
    rw [eb, en]
    by_cases hz : 0 < r.num
    · simp -implicitDefEqProofs only [go_sem, reduceIte, Nat.reduceAdd, Nat.reduceSub, Nat.reduceMul, Nat.reduceLT, Nat.reduceLeDiff, Nat.reduceEqDiff, Nat.reduceBEq, Int.reduceLE, Int.reduceLT, Int.reduceToNat, Int.reduceMul, Int.reduceAdd, Int.reduceSub, Int.reduceNeg, Int.reduceEq, reduceCtorEq, Nat.reduceMod, Int.reduceBNe, Int.reduceBEq, Int.reduceGT, Int.reduceGE, Int.reduceNe, Int.cast_ofNat_Int, Int.natCast_zero, Int.natCast_one, bne_self_eq_false, gt_iff_lt, ge_iff_le, Int.lt_irrefl, Int.le_refl, Rec.cells, hz, w1, opS, openD]
    · have hz0 : r.num = 0 := by omega
      simp -implicitDefEqProofs only [go_sem, reduceIte, Nat.reduceAdd, Nat.reduceSub, Nat.reduceMul, Nat.reduceLT, Nat.reduceLeDiff, Nat.reduceEqDiff, Nat.reduceBEq, Int.reduceLE, Int.reduceLT, Int.reduceToNat, Int.reduceMul, Int.reduceAdd, Int.reduceSub, Int.reduceNeg, Int.reduceEq, reduceCtorEq, Nat.reduceMod, Int.reduceBNe, Int.reduceBEq, Int.reduceGT, Int.reduceGE, Int.reduceNe, Int.cast_ofNat_Int, Int.natCast_zero, Int.natCast_one, bne_self_eq_false, gt_iff_lt, ge_iff_le, Int.lt_irrefl, Int.le_refl, Rec.cells, hz0, opS, openD]
theorem s_open_11 (s : Slt) (hs : s.fine) (hc : s.d0.check = 0) (hc1 : s.d1.check = 0) (hd : s.d0.down = true) (hd1 : s.d1.down = true) : Spec Try.prog 27 [.agg s.cells] [] (resV ((opS (openS s)).map AV.ofT)) := by
  refine spec_k (hold mixed) b_slots_Open (opS (openS s)) ?_
  have ev : openS s = (⟨openD s.d0, openD s.d1, nextO ⟨openD s.d0, openD s.d1, 0⟩⟩, 0) := if_pos ⟨hc, hc1⟩
  have hN := s_slots_newest ⟨openD s.d0, openD s.d1, s.next⟩ (openD_check hc) (openD_check hc1)
  rw [ev]
  simp -implicitDefEqProofs only [go_sem, reduceIte, Nat.reduceAdd, Nat.reduceSub, Nat.reduceMul, Nat.reduceLT, Nat.reduceLeDiff, Nat.reduceEqDiff, Nat.reduceBEq, Int.reduceLE, Int.reduceLT, Int.reduceToNat, Int.reduceMul, Int.reduceAdd, Int.reduceSub, Int.reduceNeg, Int.reduceEq, reduceCtorEq, Nat.reduceMod, Int.reduceBNe, Int.reduceBEq, Int.reduceGT, Int.reduceGE, Int.reduceNe, Int.cast_ofNat_Int, Int.natCast_zero, Int.natCast_one, bne_self_eq_false, gt_iff_lt, ge_iff_le, Int.lt_irrefl, Int.le_refl]
  refine loop_u 3 (ln_step (by simp -implicitDefEqProofs only [go_sem, reduceIte, Nat.reduceAdd, Nat.reduceSub, Nat.reduceMul, Nat.reduceLT, Nat.reduceLeDiff, Nat.reduceEqDiff, Nat.reduceBEq, Int.reduceLE, Int.reduceLT, Int.reduceToNat, Int.reduceMul, Int.reduceAdd, Int.reduceSub, Int.reduceNeg, Int.reduceEq, reduceCtorEq, Nat.reduceMod]; rfl) fun R hR => ?_)
  simp -implicitDefEqProofs only [go_sem, reduceIte, Nat.reduceAdd, Nat.reduceSub, Nat.reduceMul, Nat.reduceLT, Nat.reduceLeDiff, Nat.reduceEqDiff, Nat.reduceBEq, Int.reduceLE, Int.reduceLT, Int.reduceToNat, Int.reduceMul, Int.reduceAdd, Int.reduceSub, Int.reduceNeg, Int.reduceEq, reduceCtorEq, Nat.reduceMod, Int.reduceBNe, Int.reduceBEq, Int.reduceGT, Int.reduceGE, Int.reduceNe, Int.cast_ofNat_Int, Int.natCast_zero, Int.natCast_one, bne_self_eq_false, gt_iff_lt, ge_iff_le, Int.lt_irrefl, Int.le_refl]
  refine call_k (s_disk_Check s.d0 hs.1) ?_
  simp -implicitDefEqProofs only [go_sem, reduceIte, Nat.reduceAdd, Nat.reduceSub, Nat.reduceMul, Nat.reduceLT, Nat.reduceLeDiff, Nat.reduceEqDiff, Nat.reduceBEq, Int.reduceLE, Int.reduceLT, Int.reduceToNat, Int.reduceMul, Int.reduceAdd, Int.reduceSub, Int.reduceNeg, Int.reduceEq, reduceCtorEq, Nat.reduceMod, Int.reduceBNe, Int.reduceBEq, Int.reduceGT, Int.reduceGE, Int.reduceNe, Int.cast_ofNat_Int, Int.natCast_zero, Int.natCast_one, bne_self_eq_false, gt_iff_lt, ge_iff_le, Int.lt_irrefl, Int.le_refl, hc, hd]
  refine call_k (s_disk_Start s.d0 hs.1) ?_ (by simp -implicitDefEqProofs only [go_sem, reduceIte, Nat.reduceAdd, Nat.reduceSub, Nat.reduceMul, Nat.reduceLT, Nat.reduceLeDiff, Nat.reduceEqDiff, Nat.reduceBEq, Int.reduceLE, Int.reduceLT, Int.reduceToNat, Int.reduceMul, Int.reduceAdd, Int.reduceSub, Int.reduceNeg, Int.reduceEq, reduceCtorEq, Nat.reduceMod, Dev.cells, hd])
  simp -implicitDefEqProofs only [go_sem, reduceIte, Nat.reduceAdd, Nat.reduceSub, Nat.reduceMul, Nat.reduceLT, Nat.reduceLeDiff, Nat.reduceEqDiff, Nat.reduceBEq, Int.reduceLE, Int.reduceLT, Int.reduceToNat, Int.reduceMul, Int.reduceAdd, Int.reduceSub, Int.reduceNeg, Int.reduceEq, reduceCtorEq, Nat.reduceMod, Int.reduceBNe, Int.reduceBEq, Int.reduceGT, Int.reduceGE, Int.reduceNe, Int.cast_ofNat_Int, Int.natCast_zero, Int.natCast_one, bne_self_eq_false, gt_iff_lt, ge_iff_le, Int.lt_irrefl, Int.le_refl, opR]
  refine call_k (s_disk_Sync s.d0.start.1 (start_small _)) ?_
  rw [start_open hc hd]
  simp -implicitDefEqProofs only [go_sem, reduceIte, Nat.reduceAdd, Nat.reduceSub, Nat.reduceMul, Nat.reduceLT, Nat.reduceLeDiff, Nat.reduceEqDiff, Nat.reduceBEq, Int.reduceLE, Int.reduceLT, Int.reduceToNat, Int.reduceMul, Int.reduceAdd, Int.reduceSub, Int.reduceNeg, Int.reduceEq, reduceCtorEq, Nat.reduceMod, Int.reduceBNe, Int.reduceBEq, Int.reduceGT, Int.reduceGE, Int.reduceNe, Int.cast_ofNat_Int, Int.natCast_zero, Int.natCast_one, bne_self_eq_false, gt_iff_lt, ge_iff_le, Int.lt_irrefl, Int.le_refl, opR, openD]
  refine hR _ (ln_step (by simp -implicitDefEqProofs only [go_sem, reduceIte, Nat.reduceAdd, Nat.reduceSub, Nat.reduceMul, Nat.reduceLT, Nat.reduceLeDiff, Nat.reduceEqDiff, Nat.reduceBEq, Int.reduceLE, Int.reduceLT, Int.reduceToNat, Int.reduceMul, Int.reduceAdd, Int.reduceSub, Int.reduceNeg, Int.reduceEq, reduceCtorEq, Nat.reduceMod]; rfl) fun R2 hR2 => ?_)
  simp -implicitDefEqProofs only [go_sem, reduceIte, Nat.reduceAdd, Nat.reduceSub, Nat.reduceMul, Nat.reduceLT, Nat.reduceLeDiff, Nat.reduceEqDiff, Nat.reduceBEq, Int.reduceLE, Int.reduceLT, Int.reduceToNat, Int.reduceMul, Int.reduceAdd, Int.reduceSub, Int.reduceNeg, Int.reduceEq, reduceCtorEq, Nat.reduceMod, Int.reduceBNe, Int.reduceBEq, Int.reduceGT, Int.reduceGE, Int.reduceNe, Int.cast_ofNat_Int, Int.natCast_zero, Int.natCast_one, bne_self_eq_false, gt_iff_lt, ge_iff_le, Int.lt_irrefl, Int.le_refl]
  refine call_k (s_disk_Check s.d1 hs.2.1) ?_
  simp -implicitDefEqProofs only [go_sem, reduceIte, Nat.reduceAdd, Nat.reduceSub, Nat.reduceMul, Nat.reduceLT, Nat.reduceLeDiff, Nat.reduceEqDiff, Nat.reduceBEq, Int.reduceLE, Int.reduceLT, Int.reduceToNat, Int.reduceMul, Int.reduceAdd, Int.reduceSub, Int.reduceNeg, Int.reduceEq, reduceCtorEq, Nat.reduceMod, Int.reduceBNe, Int.reduceBEq, Int.reduceGT, Int.reduceGE, Int.reduceNe, Int.cast_ofNat_Int, Int.natCast_zero, Int.natCast_one, bne_self_eq_false, gt_iff_lt, ge_iff_le, Int.lt_irrefl, Int.le_refl, hc1, hd1]
  refine call_k (s_disk_Start s.d1 hs.2.1) ?_ (by simp -implicitDefEqProofs only [go_sem, reduceIte, Nat.reduceAdd, Nat.reduceSub, Nat.reduceMul, Nat.reduceLT, Nat.reduceLeDiff, Nat.reduceEqDiff, Nat.reduceBEq, Int.reduceLE, Int.reduceLT, Int.reduceToNat, Int.reduceMul, Int.reduceAdd, Int.reduceSub, Int.reduceNeg, Int.reduceEq, reduceCtorEq, Nat.reduceMod, Dev.cells, hd1])
  simp -implicitDefEqProofs only [go_sem, reduceIte, Nat.reduceAdd, Nat.reduceSub, Nat.reduceMul, Nat.reduceLT, Nat.reduceLeDiff, Nat.reduceEqDiff, Nat.reduceBEq, Int.reduceLE, Int.reduceLT, Int.reduceToNat, Int.reduceMul, Int.reduceAdd, Int.reduceSub, Int.reduceNeg, Int.reduceEq, reduceCtorEq, Nat.reduceMod, Int.reduceBNe, Int.reduceBEq, Int.reduceGT, Int.reduceGE, Int.reduceNe, Int.cast_ofNat_Int, Int.natCast_zero, Int.natCast_one, bne_self_eq_false, gt_iff_lt, ge_iff_le, Int.lt_irrefl, Int.le_refl, opR]
  refine call_k (s_disk_Sync s.d1.start.1 (start_small _)) ?_
  rw [start_open hc1 hd1]
  simp -implicitDefEqProofs only [go_sem, reduceIte, Nat.reduceAdd, Nat.reduceSub, Nat.reduceMul, Nat.reduceLT, Nat.reduceLeDiff, Nat.reduceEqDiff, Nat.reduceBEq, Int.reduceLE, Int.reduceLT, Int.reduceToNat, Int.reduceMul, Int.reduceAdd, Int.reduceSub, Int.reduceNeg, Int.reduceEq, reduceCtorEq, Nat.reduceMod, Int.reduceBNe, Int.reduceBEq, Int.reduceGT, Int.reduceGE, Int.reduceNe, Int.cast_ofNat_Int, Int.natCast_zero, Int.natCast_one, bne_self_eq_false, gt_iff_lt, ge_iff_le, Int.lt_irrefl, Int.le_refl, opR, openD]
  refine hR2 _ (ln_step (by simp -implicitDefEqProofs only [go_sem, reduceIte, Nat.reduceAdd, Nat.reduceSub, Nat.reduceMul, Nat.reduceLT, Nat.reduceLeDiff, Nat.reduceEqDiff, Nat.reduceBEq, Int.reduceLE, Int.reduceLT, Int.reduceToNat, Int.reduceMul, Int.reduceAdd, Int.reduceSub, Int.reduceNeg, Int.reduceEq, reduceCtorEq, Nat.reduceMod]; rfl) fun R3 hR3 => ?_)
  simp -implicitDefEqProofs only [go_sem, reduceIte, Nat.reduceAdd, Nat.reduceSub, Nat.reduceMul, Nat.reduceLT, Nat.reduceLeDiff, Nat.reduceEqDiff, Nat.reduceBEq, Int.reduceLE, Int.reduceLT, Int.reduceToNat, Int.reduceMul, Int.reduceAdd, Int.reduceSub, Int.reduceNeg, Int.reduceEq, reduceCtorEq, Nat.reduceMod, Int.reduceBNe, Int.reduceBEq, Int.reduceGT, Int.reduceGE, Int.reduceNe, Int.cast_ofNat_Int, Int.natCast_zero, Int.natCast_one, bne_self_eq_false, gt_iff_lt, ge_iff_le, Int.lt_irrefl, Int.le_refl]
  refine call_k hN ?_ (by simp -implicitDefEqProofs only [go_sem, reduceIte, Nat.reduceAdd, Nat.reduceSub, Nat.reduceMul, Nat.reduceLT, Nat.reduceLeDiff, Nat.reduceEqDiff, Nat.reduceBEq, Int.reduceLE, Int.reduceLT, Int.reduceToNat, Int.reduceMul, Int.reduceAdd, Int.reduceSub, Int.reduceNeg, Int.reduceEq, reduceCtorEq, Nat.reduceMod, openD])
  cases ho : newO ⟨openD s.d0, openD s.d1, s.next⟩ with
  | none =>
    have eb : newB ⟨openD s.d0, openD s.d1, s.next⟩ = ⟨-1, []⟩ := by simp [newB, ho]
    have en : nextO ⟨openD s.d0, openD s.d1, 0⟩ = 1 := by simp only [nextO, newO_next _ _ 0 s.next, ho]
    rw [eb, en]
    simp -implicitDefEqProofs only [go_sem, reduceIte, Nat.reduceAdd, Nat.reduceSub, Nat.reduceMul, Nat.reduceLT, Nat.reduceLeDiff, Nat.reduceEqDiff, Nat.reduceBEq, Int.reduceLE, Int.reduceLT, Int.reduceToNat, Int.reduceMul, Int.reduceAdd, Int.reduceSub, Int.reduceNeg, Int.reduceEq, reduceCtorEq, Nat.reduceMod, Int.reduceBNe, Int.reduceBEq, Int.reduceGT, Int.reduceGE, Int.reduceNe, Int.cast_ofNat_Int, Int.natCast_zero, Int.natCast_one, bne_self_eq_false, gt_iff_lt, ge_iff_le, Int.lt_irrefl, Int.le_refl, Rec.cells, opS, openD]
  | some r =>
    obtain ⟨p0, p1, p2⟩ := newO_ok ho
    have eb : newB ⟨openD s.d0, openD s.d1, s.next⟩ = r := by simp [newB, ho]
    have en : nextO ⟨openD s.d0, openD s.d1, 0⟩ = r.num + 1 := by simp only [nextO, newO_next _ _ 0 s.next, ho]
    have w1 : IntKind.i64.wrap (r.num + 1) = r.num + 1 := wrap_i64_id (by omega) (by omega)
    rw [eb, en]
    by_cases hz : 0 < r.num
    · simp -implicitDefEqProofs only [go_sem, reduceIte, Nat.reduceAdd, Nat.reduceSub, Nat.reduceMul, Nat.reduceLT, Nat.reduceLeDiff, Nat.reduceEqDiff, Nat.reduceBEq, Int.reduceLE, Int.reduceLT, Int.reduceToNat, Int.reduceMul, Int.reduceAdd, Int.reduceSub, Int.reduceNeg, Int.reduceEq, reduceCtorEq, Nat.reduceMod, Int.reduceBNe, Int.reduceBEq, Int.reduceGT, Int.reduceGE, Int.reduceNe, Int.cast_ofNat_Int, Int.natCast_zero, Int.natCast_one, bne_self_eq_false, gt_iff_lt, ge_iff_le, Int.lt_irrefl, Int.le_refl, Rec.cells, hz, w1, opS, openD]
    · have hz0 : r.num = 0 := by omega
      simp -implicitDefEqProofs only [go_sem, reduceIte, Nat.reduceAdd, Nat.reduceSub, Nat.reduceMul, Nat.reduceLT, Nat.reduceLeDiff, Nat.reduceEqDiff, Nat.reduceBEq, Int.reduceLE, Int.reduceLT, Int.reduceToNat, Int.reduceMul, Int.reduceAdd, Int.reduceSub, Int.reduceNeg, Int.reduceEq, reduceCtorEq, Nat.reduceMod, Int.reduceBNe, Int.reduceBEq, Int.reduceGT, Int.reduceGE, Int.reduceNe, Int.cast_ofNat_Int, Int.natCast_zero, Int.natCast_one, bne_self_eq_false, gt_iff_lt, ge_iff_le, Int.lt_irrefl, Int.le_refl, Rec.cells, hz0, opS, openD]
theorem s_slots_Open (s : Slt) (hs : s.fine) : Spec Try.prog 27 [.agg s.cells] [] (resV ((opS (openS s)).map AV.ofT)) := by
  have c8 : ∀ d : Dev, d.check = 8 ∨ d.check = 0 := fun d => by unfold Dev.check; split <;> simp
  rcases c8 s.d0 with hc | hc
  · refine spec_k (hold mixed) b_slots_Open (opS (openS s)) ?_
    have ev : openS s = (zeroS, 8) := if_neg (by omega)
    rw [ev]
    simp -implicitDefEqProofs only [go_sem, reduceIte, Nat.reduceAdd, Nat.reduceSub, Nat.reduceMul, Nat.reduceLT, Nat.reduceLeDiff, Nat.reduceEqDiff, Nat.reduceBEq, Int.reduceLE, Int.reduceLT, Int.reduceToNat, Int.reduceMul, Int.reduceAdd, Int.reduceSub, Int.reduceNeg, Int.reduceEq, reduceCtorEq, Nat.reduceMod, Int.reduceBNe, Int.reduceBEq, Int.reduceGT, Int.reduceGE, Int.reduceNe, Int.cast_ofNat_Int, Int.natCast_zero, Int.natCast_one, bne_self_eq_false, gt_iff_lt, ge_iff_le, Int.lt_irrefl, Int.le_refl]
    refine loop_u 3 (ln_step (by simp -implicitDefEqProofs only [go_sem, reduceIte, Nat.reduceAdd, Nat.reduceSub, Nat.reduceMul, Nat.reduceLT, Nat.reduceLeDiff, Nat.reduceEqDiff, Nat.reduceBEq, Int.reduceLE, Int.reduceLT, Int.reduceToNat, Int.reduceMul, Int.reduceAdd, Int.reduceSub, Int.reduceNeg, Int.reduceEq, reduceCtorEq, Nat.reduceMod]; rfl) fun R hR => ?_)
    simp -implicitDefEqProofs only [go_sem, reduceIte, Nat.reduceAdd, Nat.reduceSub, Nat.reduceMul, Nat.reduceLT, Nat.reduceLeDiff, Nat.reduceEqDiff, Nat.reduceBEq, Int.reduceLE, Int.reduceLT, Int.reduceToNat, Int.reduceMul, Int.reduceAdd, Int.reduceSub, Int.reduceNeg, Int.reduceEq, reduceCtorEq, Nat.reduceMod, Int.reduceBNe, Int.reduceBEq, Int.reduceGT, Int.reduceGE, Int.reduceNe, Int.cast_ofNat_Int, Int.natCast_zero, Int.natCast_one, bne_self_eq_false, gt_iff_lt, ge_iff_le, Int.lt_irrefl, Int.le_refl]
    refine call_k (s_disk_Check s.d0 hs.1) ?_
    simp -implicitDefEqProofs only [go_sem, reduceIte, Nat.reduceAdd, Nat.reduceSub, Nat.reduceMul, Nat.reduceLT, Nat.reduceLeDiff, Nat.reduceEqDiff, Nat.reduceBEq, Int.reduceLE, Int.reduceLT, Int.reduceToNat, Int.reduceMul, Int.reduceAdd, Int.reduceSub, Int.reduceNeg, Int.reduceEq, reduceCtorEq, Nat.reduceMod, Int.reduceBNe, Int.reduceBEq, Int.reduceGT, Int.reduceGE, Int.reduceNe, Int.cast_ofNat_Int, Int.natCast_zero, Int.natCast_one, bne_self_eq_false, gt_iff_lt, ge_iff_le, Int.lt_irrefl, Int.le_refl, hc, opS, zeroS_cells]
    try rfl
  rcases c8 s.d1 with hc1 | hc1
  · refine spec_k (hold mixed) b_slots_Open (opS (openS s)) ?_
    have ev : openS s = (zeroS, 8) := if_neg (by omega)
    rw [ev]
    simp -implicitDefEqProofs only [go_sem, reduceIte, Nat.reduceAdd, Nat.reduceSub, Nat.reduceMul, Nat.reduceLT, Nat.reduceLeDiff, Nat.reduceEqDiff, Nat.reduceBEq, Int.reduceLE, Int.reduceLT, Int.reduceToNat, Int.reduceMul, Int.reduceAdd, Int.reduceSub, Int.reduceNeg, Int.reduceEq, reduceCtorEq, Nat.reduceMod, Int.reduceBNe, Int.reduceBEq, Int.reduceGT, Int.reduceGE, Int.reduceNe, Int.cast_ofNat_Int, Int.natCast_zero, Int.natCast_one, bne_self_eq_false, gt_iff_lt, ge_iff_le, Int.lt_irrefl, Int.le_refl]
    refine loop_u 3 (ln_step (by simp -implicitDefEqProofs only [go_sem, reduceIte, Nat.reduceAdd, Nat.reduceSub, Nat.reduceMul, Nat.reduceLT, Nat.reduceLeDiff, Nat.reduceEqDiff, Nat.reduceBEq, Int.reduceLE, Int.reduceLT, Int.reduceToNat, Int.reduceMul, Int.reduceAdd, Int.reduceSub, Int.reduceNeg, Int.reduceEq, reduceCtorEq, Nat.reduceMod]; rfl) fun R hR => ?_)
    simp -implicitDefEqProofs only [go_sem, reduceIte, Nat.reduceAdd, Nat.reduceSub, Nat.reduceMul, Nat.reduceLT, Nat.reduceLeDiff, Nat.reduceEqDiff, Nat.reduceBEq, Int.reduceLE, Int.reduceLT, Int.reduceToNat, Int.reduceMul, Int.reduceAdd, Int.reduceSub, Int.reduceNeg, Int.reduceEq, reduceCtorEq, Nat.reduceMod, Int.reduceBNe, Int.reduceBEq, Int.reduceGT, Int.reduceGE, Int.reduceNe, Int.cast_ofNat_Int, Int.natCast_zero, Int.natCast_one, bne_self_eq_false, gt_iff_lt, ge_iff_le, Int.lt_irrefl, Int.le_refl]
    refine call_k (s_disk_Check s.d0 hs.1) ?_
    cases hd : s.d0.down with
    | false =>
      simp -implicitDefEqProofs only [go_sem, reduceIte, Nat.reduceAdd, Nat.reduceSub, Nat.reduceMul, Nat.reduceLT, Nat.reduceLeDiff, Nat.reduceEqDiff, Nat.reduceBEq, Int.reduceLE, Int.reduceLT, Int.reduceToNat, Int.reduceMul, Int.reduceAdd, Int.reduceSub, Int.reduceNeg, Int.reduceEq, reduceCtorEq, Nat.reduceMod, Int.reduceBNe, Int.reduceBEq, Int.reduceGT, Int.reduceGE, Int.reduceNe, Int.cast_ofNat_Int, Int.natCast_zero, Int.natCast_one, bne_self_eq_false, gt_iff_lt, ge_iff_le, Int.lt_irrefl, Int.le_refl, hc]
      refine call_k (s_disk_Sync s.d0 hs.1) ?_ (by simp -implicitDefEqProofs only [go_sem, reduceIte, Nat.reduceAdd, Nat.reduceSub, Nat.reduceMul, Nat.reduceLT, Nat.reduceLeDiff, Nat.reduceEqDiff, Nat.reduceBEq, Int.reduceLE, Int.reduceLT, Int.reduceToNat, Int.reduceMul, Int.reduceAdd, Int.reduceSub, Int.reduceNeg, Int.reduceEq, reduceCtorEq, Nat.reduceMod, Dev.cells, hd])
      rw [sync_open hc hd]
      simp -implicitDefEqProofs only [go_sem, reduceIte, Nat.reduceAdd, Nat.reduceSub, Nat.reduceMul, Nat.reduceLT, Nat.reduceLeDiff, Nat.reduceEqDiff, Nat.reduceBEq, Int.reduceLE, Int.reduceLT, Int.reduceToNat, Int.reduceMul, Int.reduceAdd, Int.reduceSub, Int.reduceNeg, Int.reduceEq, reduceCtorEq, Nat.reduceMod, Int.reduceBNe, Int.reduceBEq, Int.reduceGT, Int.reduceGE, Int.reduceNe, Int.cast_ofNat_Int, Int.natCast_zero, Int.natCast_one, bne_self_eq_false, gt_iff_lt, ge_iff_le, Int.lt_irrefl, Int.le_refl, opR, openD]
      refine hR _ (ln_step (by simp -implicitDefEqProofs only [go_sem, reduceIte, Nat.reduceAdd, Nat.reduceSub, Nat.reduceMul, Nat.reduceLT, Nat.reduceLeDiff, Nat.reduceEqDiff, Nat.reduceBEq, Int.reduceLE, Int.reduceLT, Int.reduceToNat, Int.reduceMul, Int.reduceAdd, Int.reduceSub, Int.reduceNeg, Int.reduceEq, reduceCtorEq, Nat.reduceMod]; rfl) fun R2 hR2 => ?_)
      simp -implicitDefEqProofs only [go_sem, reduceIte, Nat.reduceAdd, Nat.reduceSub, Nat.reduceMul, Nat.reduceLT, Nat.reduceLeDiff, Nat.reduceEqDiff, Nat.reduceBEq, Int.reduceLE, Int.reduceLT, Int.reduceToNat, Int.reduceMul, Int.reduceAdd, Int.reduceSub, Int.reduceNeg, Int.reduceEq, reduceCtorEq, Nat.reduceMod, Int.reduceBNe, Int.reduceBEq, Int.reduceGT, Int.reduceGE, Int.reduceNe, Int.cast_ofNat_Int, Int.natCast_zero, Int.natCast_one, bne_self_eq_false, gt_iff_lt, ge_iff_le, Int.lt_irrefl, Int.le_refl]
      refine call_k (s_disk_Check s.d1 hs.2.1) ?_
      simp -implicitDefEqProofs only [go_sem, reduceIte, Nat.reduceAdd, Nat.reduceSub, Nat.reduceMul, Nat.reduceLT, Nat.reduceLeDiff, Nat.reduceEqDiff, Nat.reduceBEq, Int.reduceLE, Int.reduceLT, Int.reduceToNat, Int.reduceMul, Int.reduceAdd, Int.reduceSub, Int.reduceNeg, Int.reduceEq, reduceCtorEq, Nat.reduceMod, Int.reduceBNe, Int.reduceBEq, Int.reduceGT, Int.reduceGE, Int.reduceNe, Int.cast_ofNat_Int, Int.natCast_zero, Int.natCast_one, bne_self_eq_false, gt_iff_lt, ge_iff_le, Int.lt_irrefl, Int.le_refl, hc1, opS, zeroS_cells]
      try rfl
    | true =>
      simp -implicitDefEqProofs only [go_sem, reduceIte, Nat.reduceAdd, Nat.reduceSub, Nat.reduceMul, Nat.reduceLT, Nat.reduceLeDiff, Nat.reduceEqDiff, Nat.reduceBEq, Int.reduceLE, Int.reduceLT, Int.reduceToNat, Int.reduceMul, Int.reduceAdd, Int.reduceSub, Int.reduceNeg, Int.reduceEq, reduceCtorEq, Nat.reduceMod, Int.reduceBNe, Int.reduceBEq, Int.reduceGT, Int.reduceGE, Int.reduceNe, Int.cast_ofNat_Int, Int.natCast_zero, Int.natCast_one, bne_self_eq_false, gt_iff_lt, ge_iff_le, Int.lt_irrefl, Int.le_refl, hc]
      refine call_k (s_disk_Start s.d0 hs.1) ?_ (by simp -implicitDefEqProofs only [go_sem, reduceIte, Nat.reduceAdd, Nat.reduceSub, Nat.reduceMul, Nat.reduceLT, Nat.reduceLeDiff, Nat.reduceEqDiff, Nat.reduceBEq, Int.reduceLE, Int.reduceLT, Int.reduceToNat, Int.reduceMul, Int.reduceAdd, Int.reduceSub, Int.reduceNeg, Int.reduceEq, reduceCtorEq, Nat.reduceMod, Dev.cells, hd])
      simp -implicitDefEqProofs only [go_sem, reduceIte, Nat.reduceAdd, Nat.reduceSub, Nat.reduceMul, Nat.reduceLT, Nat.reduceLeDiff, Nat.reduceEqDiff, Nat.reduceBEq, Int.reduceLE, Int.reduceLT, Int.reduceToNat, Int.reduceMul, Int.reduceAdd, Int.reduceSub, Int.reduceNeg, Int.reduceEq, reduceCtorEq, Nat.reduceMod, Int.reduceBNe, Int.reduceBEq, Int.reduceGT, Int.reduceGE, Int.reduceNe, Int.cast_ofNat_Int, Int.natCast_zero, Int.natCast_one, bne_self_eq_false, gt_iff_lt, ge_iff_le, Int.lt_irrefl, Int.le_refl, opR]
      refine call_k (s_disk_Sync s.d0.start.1 (start_small _)) ?_
      rw [start_open hc hd]
      simp -implicitDefEqProofs only [go_sem, reduceIte, Nat.reduceAdd, Nat.reduceSub, Nat.reduceMul, Nat.reduceLT, Nat.reduceLeDiff, Nat.reduceEqDiff, Nat.reduceBEq, Int.reduceLE, Int.reduceLT, Int.reduceToNat, Int.reduceMul, Int.reduceAdd, Int.reduceSub, Int.reduceNeg, Int.reduceEq, reduceCtorEq, Nat.reduceMod, Int.reduceBNe, Int.reduceBEq, Int.reduceGT, Int.reduceGE, Int.reduceNe, Int.cast_ofNat_Int, Int.natCast_zero, Int.natCast_one, bne_self_eq_false, gt_iff_lt, ge_iff_le, Int.lt_irrefl, Int.le_refl, opR, openD]
      refine hR _ (ln_step (by simp -implicitDefEqProofs only [go_sem, reduceIte, Nat.reduceAdd, Nat.reduceSub, Nat.reduceMul, Nat.reduceLT, Nat.reduceLeDiff, Nat.reduceEqDiff, Nat.reduceBEq, Int.reduceLE, Int.reduceLT, Int.reduceToNat, Int.reduceMul, Int.reduceAdd, Int.reduceSub, Int.reduceNeg, Int.reduceEq, reduceCtorEq, Nat.reduceMod]; rfl) fun R2 hR2 => ?_)
      simp -implicitDefEqProofs only [go_sem, reduceIte, Nat.reduceAdd, Nat.reduceSub, Nat.reduceMul, Nat.reduceLT, Nat.reduceLeDiff, Nat.reduceEqDiff, Nat.reduceBEq, Int.reduceLE, Int.reduceLT, Int.reduceToNat, Int.reduceMul, Int.reduceAdd, Int.reduceSub, Int.reduceNeg, Int.reduceEq, reduceCtorEq, Nat.reduceMod, Int.reduceBNe, Int.reduceBEq, Int.reduceGT, Int.reduceGE, Int.reduceNe, Int.cast_ofNat_Int, Int.natCast_zero, Int.natCast_one, bne_self_eq_false, gt_iff_lt, ge_iff_le, Int.lt_irrefl, Int.le_refl]
      refine call_k (s_disk_Check s.d1 hs.2.1) ?_
      simp -implicitDefEqProofs only [go_sem, reduceIte, Nat.reduceAdd, Nat.reduceSub, Nat.reduceMul, Nat.reduceLT, Nat.reduceLeDiff, Nat.reduceEqDiff, Nat.reduceBEq, Int.reduceLE, Int.reduceLT, Int.reduceToNat, Int.reduceMul, Int.reduceAdd, Int.reduceSub, Int.reduceNeg, Int.reduceEq, reduceCtorEq, Nat.reduceMod, Int.reduceBNe, Int.reduceBEq, Int.reduceGT, Int.reduceGE, Int.reduceNe, Int.cast_ofNat_Int, Int.natCast_zero, Int.natCast_one, bne_self_eq_false, gt_iff_lt, ge_iff_le, Int.lt_irrefl, Int.le_refl, hc1, opS, zeroS_cells]
      try rfl
  cases hd : s.d0.down <;> cases hd1 : s.d1.down
  · exact s_open_00 s hs hc hc1 hd hd1
  · exact s_open_01 s hs hc hc1 hd hd1
  · exact s_open_10 s hs hc hc1 hd hd1
  · exact s_open_11 s hs hc hc1 hd hd1
end Go.Proofs.Ytdpnjhooehadmaa.Pm

/-! PmSe -/
set_option linter.all false
set_option maxRecDepth 100000
set_option maxHeartbeats 2000000
namespace Go.Proofs.Ytdpnjhooehadmaa.Pm
open Go Go.RowKit

def cpT (o : Option Rec) : List (T × Bool) := [(.agg (o.getD ⟨0, []⟩).cells, true), (.b o.isSome, true)]
theorem s_ref05_checkpoint (d : Dev) (hd : d.small) (i : Int) : Spec Try.prog 100 [.agg d.cells, .i .i64 i] [] (resV ((cpT (d.cp i)).map AV.ofT)) := by
  refine spec_k (hold mixed) b_ref05_checkpoint (cpT (d.cp i)) ?_
  have hl2 : d.all.length ≤ 200000 := by have := hd.1; have := hd.2; simp [Dev.all]; omega
  have hW := s_ref01_Whole d hd
  rw [show d.syn ++ d.tail = d.all from rfl] at hW
  have z0 : ((([] : List Rec).length : Nat) : Int) = 0 := rfl
  simp -implicitDefEqProofs only [go_sem, reduceIte, Nat.reduceAdd, Nat.reduceSub, Nat.reduceMul, Nat.reduceLT, Nat.reduceLeDiff, Nat.reduceEqDiff, Nat.reduceBEq, Int.reduceLE, Int.reduceLT, Int.reduceToNat, Int.reduceMul, Int.reduceAdd, Int.reduceSub, Int.reduceNeg, Int.reduceEq, reduceCtorEq, Nat.reduceMod]
  refine call_k hW ?_
  simp -implicitDefEqProofs only [go_sem, reduceIte, Nat.reduceAdd, Nat.reduceSub, Nat.reduceMul, Nat.reduceLT, Nat.reduceLeDiff, Nat.reduceEqDiff, Nat.reduceBEq, Int.reduceLE, Int.reduceLT, Int.reduceToNat, Int.reduceMul, Int.reduceAdd, Int.reduceSub, Int.reduceNeg, Int.reduceEq, reduceCtorEq, Nat.reduceMod]
  refine call_k (s_ref03_Found d.all (by omega)) ?_
  cases e0 : scanL d.all with
  | nil =>
    have c0 := cp_none0 (i := i) e0
    rw [c0]
    simp -implicitDefEqProofs only [go_sem, reduceIte, Nat.reduceAdd, Nat.reduceSub, Nat.reduceMul, Nat.reduceLT, Nat.reduceLeDiff, Nat.reduceEqDiff, Nat.reduceBEq, Int.reduceLE, Int.reduceLT, Int.reduceToNat, Int.reduceMul, Int.reduceAdd, Int.reduceSub, Int.reduceNeg, Int.reduceEq, reduceCtorEq, Nat.reduceMod, Int.reduceBNe, Int.reduceBEq, Int.reduceGT, Int.reduceGE, Int.reduceNe, Int.cast_ofNat_Int, Int.natCast_zero, Int.natCast_one, bne_self_eq_false, gt_iff_lt, ge_iff_le, Int.lt_irrefl, Int.le_refl, recsT_length, z0, cpT, Option.getD, Option.isSome, Rec.cells]
    try simp -implicitDefEqProofs only [go_sem, reduceIte, Nat.reduceAdd, Nat.reduceSub, Nat.reduceMul, Nat.reduceLT, Nat.reduceLeDiff, Nat.reduceEqDiff, Nat.reduceBEq, Int.reduceLE, Int.reduceLT, Int.reduceToNat, Int.reduceMul, Int.reduceAdd, Int.reduceSub, Int.reduceNeg, Int.reduceEq, reduceCtorEq, Nat.reduceMod, Int.reduceBNe, Int.reduceBEq, Int.reduceGT, Int.reduceGE, Int.reduceNe, Int.cast_ofNat_Int, Int.natCast_zero, Int.natCast_one, bne_self_eq_false, gt_iff_lt, ge_iff_le, Int.lt_irrefl, Int.le_refl, bT, List.map]
  | cons r rs =>
    have z1 : ((((rs.length + 1 : Nat)) : Int) == 0) = false := by simp only [beq_eq_false_iff_ne, ne_eq]; omega
    have z2 : (recsT (r :: rs))[0]? = some r.cells := rfl
    by_cases q0 : r.num.tmod 2 = i
    · have c0 := cp_some e0 q0
      have q0' : (i != i) = false := by simp
      rw [c0]
      simp -implicitDefEqProofs only [go_sem, reduceIte, Nat.reduceAdd, Nat.reduceSub, Nat.reduceMul, Nat.reduceLT, Nat.reduceLeDiff, Nat.reduceEqDiff, Nat.reduceBEq, Int.reduceLE, Int.reduceLT, Int.reduceToNat, Int.reduceMul, Int.reduceAdd, Int.reduceSub, Int.reduceNeg, Int.reduceEq, reduceCtorEq, Nat.reduceMod, Int.reduceBNe, Int.reduceBEq, Int.reduceGT, Int.reduceGE, Int.reduceNe, Int.cast_ofNat_Int, Int.natCast_zero, Int.natCast_one, bne_self_eq_false, gt_iff_lt, ge_iff_le, Int.lt_irrefl, Int.le_refl, recsT_length, z1, z2, Rec.cells, q0, q0', cpT, Option.getD, Option.isSome]
    · have c0 := cp_none e0 q0
      have q0' : (r.num.tmod 2 != i) = true := by simp [q0]
      rw [c0]
      simp -implicitDefEqProofs only [go_sem, reduceIte, Nat.reduceAdd, Nat.reduceSub, Nat.reduceMul, Nat.reduceLT, Nat.reduceLeDiff, Nat.reduceEqDiff, Nat.reduceBEq, Int.reduceLE, Int.reduceLT, Int.reduceToNat, Int.reduceMul, Int.reduceAdd, Int.reduceSub, Int.reduceNeg, Int.reduceEq, reduceCtorEq, Nat.reduceMod, Int.reduceBNe, Int.reduceBEq, Int.reduceGT, Int.reduceGE, Int.reduceNe, Int.cast_ofNat_Int, Int.natCast_zero, Int.natCast_one, bne_self_eq_false, gt_iff_lt, ge_iff_le, Int.lt_irrefl, Int.le_refl, recsT_length, z1, z2, Rec.cells, q0', cpT, Option.getD, Option.isSome]
      try simp -implicitDefEqProofs only [go_sem, reduceIte, Nat.reduceAdd, Nat.reduceSub, Nat.reduceMul, Nat.reduceLT, Nat.reduceLeDiff, Nat.reduceEqDiff, Nat.reduceBEq, Int.reduceLE, Int.reduceLT, Int.reduceToNat, Int.reduceMul, Int.reduceAdd, Int.reduceSub, Int.reduceNeg, Int.reduceEq, reduceCtorEq, Nat.reduceMod, Int.reduceBNe, Int.reduceBEq, Int.reduceGT, Int.reduceGE, Int.reduceNe, Int.cast_ofNat_Int, Int.natCast_zero, Int.natCast_one, bne_self_eq_false, gt_iff_lt, ge_iff_le, Int.lt_irrefl, Int.le_refl, bT, List.map]
theorem s_ref05_Newest (s : Slt) (h0 : s.d0.small) (h1 : s.d1.small) : Spec Try.prog 70 [.agg s.cells] [] (resV ((cpT (newO s)).map AV.ofT)) := by
  refine spec_k (hold mixed) b_ref05_Newest (cpT (newO s)) ?_
  have h2 := s_ref05_checkpoint s.d0 h0 0
  have h3 := s_ref05_checkpoint s.d1 h1 1
  cases e0 : s.d0.cp 0 with
  | none =>
    have ev : newO s = s.d1.cp 1 := by simp only [newO, e0]
    rw [e0] at h2
    rw [ev]
    generalize s.d1.cp 1 = o at *
    simp -implicitDefEqProofs only [go_sem, reduceIte, Nat.reduceAdd, Nat.reduceSub, Nat.reduceMul, Nat.reduceLT, Nat.reduceLeDiff, Nat.reduceEqDiff, Nat.reduceBEq, Int.reduceLE, Int.reduceLT, Int.reduceToNat, Int.reduceMul, Int.reduceAdd, Int.reduceSub, Int.reduceNeg, Int.reduceEq, reduceCtorEq, Nat.reduceMod, Int.reduceBNe, Int.reduceBEq, Int.reduceGT, Int.reduceGE, Int.reduceNe, Int.cast_ofNat_Int, Int.natCast_zero, Int.natCast_one, bne_self_eq_false, gt_iff_lt, ge_iff_le, Int.lt_irrefl, Int.le_refl]
    refine call_k h2 ?_ (hl := by simp -implicitDefEqProofs only [go_sem, reduceIte, Nat.reduceAdd, Nat.reduceSub, Nat.reduceMul, Nat.reduceLT, Nat.reduceLeDiff, Nat.reduceEqDiff, Nat.reduceBEq, Int.reduceLE, Int.reduceLT, Int.reduceToNat, Int.reduceMul, Int.reduceAdd, Int.reduceSub, Int.reduceNeg, Int.reduceEq, reduceCtorEq, Nat.reduceMod, cpT])
    simp -implicitDefEqProofs only [go_sem, reduceIte, Nat.reduceAdd, Nat.reduceSub, Nat.reduceMul, Nat.reduceLT, Nat.reduceLeDiff, Nat.reduceEqDiff, Nat.reduceBEq, Int.reduceLE, Int.reduceLT, Int.reduceToNat, Int.reduceMul, Int.reduceAdd, Int.reduceSub, Int.reduceNeg, Int.reduceEq, reduceCtorEq, Nat.reduceMod, Int.reduceBNe, Int.reduceBEq, Int.reduceGT, Int.reduceGE, Int.reduceNe, Int.cast_ofNat_Int, Int.natCast_zero, Int.natCast_one, bne_self_eq_false, gt_iff_lt, ge_iff_le, Int.lt_irrefl, Int.le_refl, cpT, Option.getD, Option.isSome, Rec.cells]
    refine call_k h3 ?_ (hl := by simp -implicitDefEqProofs only [go_sem, reduceIte, Nat.reduceAdd, Nat.reduceSub, Nat.reduceMul, Nat.reduceLT, Nat.reduceLeDiff, Nat.reduceEqDiff, Nat.reduceBEq, Int.reduceLE, Int.reduceLT, Int.reduceToNat, Int.reduceMul, Int.reduceAdd, Int.reduceSub, Int.reduceNeg, Int.reduceEq, reduceCtorEq, Nat.reduceMod, cpT])
    cases o <;> simp -implicitDefEqProofs only [go_sem, reduceIte, Nat.reduceAdd, Nat.reduceSub, Nat.reduceMul, Nat.reduceLT, Nat.reduceLeDiff, Nat.reduceEqDiff, Nat.reduceBEq, Int.reduceLE, Int.reduceLT, Int.reduceToNat, Int.reduceMul, Int.reduceAdd, Int.reduceSub, Int.reduceNeg, Int.reduceEq, reduceCtorEq, Nat.reduceMod, Int.reduceBNe, Int.reduceBEq, Int.reduceGT, Int.reduceGE, Int.reduceNe, Int.cast_ofNat_Int, Int.natCast_zero, Int.natCast_one, bne_self_eq_false, gt_iff_lt, ge_iff_le, Int.lt_irrefl, Int.le_refl, cpT, Option.getD, Option.isSome, Rec.cells]
  | some a =>
    cases e1 : s.d1.cp 1 with
    | none =>
      have ev : newO s = some a := by simp only [newO, e0, e1]
      rw [e0] at h2
      rw [e1] at h3
      rw [ev]
      simp -implicitDefEqProofs only [go_sem, reduceIte, Nat.reduceAdd, Nat.reduceSub, Nat.reduceMul, Nat.reduceLT, Nat.reduceLeDiff, Nat.reduceEqDiff, Nat.reduceBEq, Int.reduceLE, Int.reduceLT, Int.reduceToNat, Int.reduceMul, Int.reduceAdd, Int.reduceSub, Int.reduceNeg, Int.reduceEq, reduceCtorEq, Nat.reduceMod, Int.reduceBNe, Int.reduceBEq, Int.reduceGT, Int.reduceGE, Int.reduceNe, Int.cast_ofNat_Int, Int.natCast_zero, Int.natCast_one, bne_self_eq_false, gt_iff_lt, ge_iff_le, Int.lt_irrefl, Int.le_refl]
      refine call_k h2 ?_ (hl := by simp -implicitDefEqProofs only [go_sem, reduceIte, Nat.reduceAdd, Nat.reduceSub, Nat.reduceMul, Nat.reduceLT, Nat.reduceLeDiff, Nat.reduceEqDiff, Nat.reduceBEq, Int.reduceLE, Int.reduceLT, Int.reduceToNat, Int.reduceMul, Int.reduceAdd, Int.reduceSub, Int.reduceNeg, Int.reduceEq, reduceCtorEq, Nat.reduceMod, cpT])
      simp -implicitDefEqProofs only [go_sem, reduceIte, Nat.reduceAdd, Nat.reduceSub, Nat.reduceMul, Nat.reduceLT, Nat.reduceLeDiff, Nat.reduceEqDiff, Nat.reduceBEq, Int.reduceLE, Int.reduceLT, Int.reduceToNat, Int.reduceMul, Int.reduceAdd, Int.reduceSub, Int.reduceNeg, Int.reduceEq, reduceCtorEq, Nat.reduceMod, Int.reduceBNe, Int.reduceBEq, Int.reduceGT, Int.reduceGE, Int.reduceNe, Int.cast_ofNat_Int, Int.natCast_zero, Int.natCast_one, bne_self_eq_false, gt_iff_lt, ge_iff_le, Int.lt_irrefl, Int.le_refl, cpT, Option.getD, Option.isSome, Rec.cells]
      refine call_k h3 ?_ (hl := by simp -implicitDefEqProofs only [go_sem, reduceIte, Nat.reduceAdd, Nat.reduceSub, Nat.reduceMul, Nat.reduceLT, Nat.reduceLeDiff, Nat.reduceEqDiff, Nat.reduceBEq, Int.reduceLE, Int.reduceLT, Int.reduceToNat, Int.reduceMul, Int.reduceAdd, Int.reduceSub, Int.reduceNeg, Int.reduceEq, reduceCtorEq, Nat.reduceMod, cpT])
      simp -implicitDefEqProofs only [go_sem, reduceIte, Nat.reduceAdd, Nat.reduceSub, Nat.reduceMul, Nat.reduceLT, Nat.reduceLeDiff, Nat.reduceEqDiff, Nat.reduceBEq, Int.reduceLE, Int.reduceLT, Int.reduceToNat, Int.reduceMul, Int.reduceAdd, Int.reduceSub, Int.reduceNeg, Int.reduceEq, reduceCtorEq, Nat.reduceMod, Int.reduceBNe, Int.reduceBEq, Int.reduceGT, Int.reduceGE, Int.reduceNe, Int.cast_ofNat_Int, Int.natCast_zero, Int.natCast_one, bne_self_eq_false, gt_iff_lt, ge_iff_le, Int.lt_irrefl, Int.le_refl, cpT, Option.getD, Option.isSome, Rec.cells]
    | some b =>
      by_cases q : a.num < b.num
      · have ev : newO s = some b := by simp only [newO, e0, e1, if_pos q]
        rw [e0] at h2
        rw [e1] at h3
        rw [ev]
        simp -implicitDefEqProofs only [go_sem, reduceIte, Nat.reduceAdd, Nat.reduceSub, Nat.reduceMul, Nat.reduceLT, Nat.reduceLeDiff, Nat.reduceEqDiff, Nat.reduceBEq, Int.reduceLE, Int.reduceLT, Int.reduceToNat, Int.reduceMul, Int.reduceAdd, Int.reduceSub, Int.reduceNeg, Int.reduceEq, reduceCtorEq, Nat.reduceMod, Int.reduceBNe, Int.reduceBEq, Int.reduceGT, Int.reduceGE, Int.reduceNe, Int.cast_ofNat_Int, Int.natCast_zero, Int.natCast_one, bne_self_eq_false, gt_iff_lt, ge_iff_le, Int.lt_irrefl, Int.le_refl]
        refine call_k h2 ?_ (hl := by simp -implicitDefEqProofs only [go_sem, reduceIte, Nat.reduceAdd, Nat.reduceSub, Nat.reduceMul, Nat.reduceLT, Nat.reduceLeDiff, Nat.reduceEqDiff, Nat.reduceBEq, Int.reduceLE, Int.reduceLT, Int.reduceToNat, Int.reduceMul, Int.reduceAdd, Int.reduceSub, Int.reduceNeg, Int.reduceEq, reduceCtorEq, Nat.reduceMod, cpT])
        simp -implicitDefEqProofs only [go_sem, reduceIte, Nat.reduceAdd, Nat.reduceSub, Nat.reduceMul, Nat.reduceLT, Nat.reduceLeDiff, Nat.reduceEqDiff, Nat.reduceBEq, Int.reduceLE, Int.reduceLT, Int.reduceToNat, Int.reduceMul, Int.reduceAdd, Int.reduceSub, Int.reduceNeg, Int.reduceEq, reduceCtorEq, Nat.reduceMod, Int.reduceBNe, Int.reduceBEq, Int.reduceGT, Int.reduceGE, Int.reduceNe, Int.cast_ofNat_Int, Int.natCast_zero, Int.natCast_one, bne_self_eq_false, gt_iff_lt, ge_iff_le, Int.lt_irrefl, Int.le_refl, cpT, Option.getD, Option.isSome, Rec.cells]
        refine call_k h3 ?_ (hl := by simp -implicitDefEqProofs only [go_sem, reduceIte, Nat.reduceAdd, Nat.reduceSub, Nat.reduceMul, Nat.reduceLT, Nat.reduceLeDiff, Nat.reduceEqDiff, Nat.reduceBEq, Int.reduceLE, Int.reduceLT, Int.reduceToNat, Int.reduceMul, Int.reduceAdd, Int.reduceSub, Int.reduceNeg, Int.reduceEq, reduceCtorEq, Nat.reduceMod, cpT])
        simp -implicitDefEqProofs only [go_sem, reduceIte, Nat.reduceAdd, Nat.reduceSub, Nat.reduceMul, Nat.reduceLT, Nat.reduceLeDiff, Nat.reduceEqDiff, Nat.reduceBEq, Int.reduceLE, Int.reduceLT, Int.reduceToNat, Int.reduceMul, Int.reduceAdd, Int.reduceSub, Int.reduceNeg, Int.reduceEq, reduceCtorEq, Nat.reduceMod, Int.reduceBNe, Int.reduceBEq, Int.reduceGT, Int.reduceGE, Int.reduceNe, Int.cast_ofNat_Int, Int.natCast_zero, Int.natCast_one, bne_self_eq_false, gt_iff_lt, ge_iff_le, Int.lt_irrefl, Int.le_refl, cpT, Option.getD, Option.isSome, Rec.cells, q]
      · have ev : newO s = some a := by simp only [newO, e0, e1, if_neg q]
        rw [e0] at h2
        rw [e1] at h3
        rw [ev]
        simp -implicitDefEqProofs only [go_sem, reduceIte, Nat.reduceAdd, Nat.reduceSub, Nat.reduceMul, Nat.reduceLT, Nat.reduceLeDiff, Nat.reduceEqDiff, Nat.reduceBEq, Int.reduceLE, Int.reduceLT, Int.reduceToNat, Int.reduceMul, Int.reduceAdd, Int.reduceSub, Int.reduceNeg, Int.reduceEq, reduceCtorEq, Nat.reduceMod, Int.reduceBNe, Int.reduceBEq, Int.reduceGT, Int.reduceGE, Int.reduceNe, Int.cast_ofNat_Int, Int.natCast_zero, Int.natCast_one, bne_self_eq_false, gt_iff_lt, ge_iff_le, Int.lt_irrefl, Int.le_refl]
        refine call_k h2 ?_ (hl := by simp -implicitDefEqProofs only [go_sem, reduceIte, Nat.reduceAdd, Nat.reduceSub, Nat.reduceMul, Nat.reduceLT, Nat.reduceLeDiff, Nat.reduceEqDiff, Nat.reduceBEq, Int.reduceLE, Int.reduceLT, Int.reduceToNat, Int.reduceMul, Int.reduceAdd, Int.reduceSub, Int.reduceNeg, Int.reduceEq, reduceCtorEq, Nat.reduceMod, cpT])
        simp -implicitDefEqProofs only [go_sem, reduceIte, Nat.reduceAdd, Nat.reduceSub, Nat.reduceMul, Nat.reduceLT, Nat.reduceLeDiff, Nat.reduceEqDiff, Nat.reduceBEq, Int.reduceLE, Int.reduceLT, Int.reduceToNat, Int.reduceMul, Int.reduceAdd, Int.reduceSub, Int.reduceNeg, Int.reduceEq, reduceCtorEq, Nat.reduceMod, Int.reduceBNe, Int.reduceBEq, Int.reduceGT, Int.reduceGE, Int.reduceNe, Int.cast_ofNat_Int, Int.natCast_zero, Int.natCast_one, bne_self_eq_false, gt_iff_lt, ge_iff_le, Int.lt_irrefl, Int.le_refl, cpT, Option.getD, Option.isSome, Rec.cells]
        refine call_k h3 ?_ (hl := by simp -implicitDefEqProofs only [go_sem, reduceIte, Nat.reduceAdd, Nat.reduceSub, Nat.reduceMul, Nat.reduceLT, Nat.reduceLeDiff, Nat.reduceEqDiff, Nat.reduceBEq, Int.reduceLE, Int.reduceLT, Int.reduceToNat, Int.reduceMul, Int.reduceAdd, Int.reduceSub, Int.reduceNeg, Int.reduceEq, reduceCtorEq, Nat.reduceMod, cpT])
        simp -implicitDefEqProofs only [go_sem, reduceIte, Nat.reduceAdd, Nat.reduceSub, Nat.reduceMul, Nat.reduceLT, Nat.reduceLeDiff, Nat.reduceEqDiff, Nat.reduceBEq, Int.reduceLE, Int.reduceLT, Int.reduceToNat, Int.reduceMul, Int.reduceAdd, Int.reduceSub, Int.reduceNeg, Int.reduceEq, reduceCtorEq, Nat.reduceMod, Int.reduceBNe, Int.reduceBEq, Int.reduceGT, Int.reduceGE, Int.reduceNe, Int.cast_ofNat_Int, Int.natCast_zero, Int.natCast_one, bne_self_eq_false, gt_iff_lt, ge_iff_le, Int.lt_irrefl, Int.le_refl, cpT, Option.getD, Option.isSome, Rec.cells, q]
theorem s_ref05_Twin (s : Slt) (h0 : s.d0.small) (h1 : s.d1.small) : Spec Try.prog 24 [.agg s.cells] [.row 0 1 (bT s.d0.syn) true, .row 0 1 (bT s.d0.tail) true, .row 0 1 (bT s.d1.syn) true, .row 0 1 (bT s.d1.tail) true]
    (.agg [.row 0 0 0 s.d0.syn.length, .row 1 0 0 s.d0.tail.length, .t (.i .i64 s.d0.cap) true, .t (.b s.d0.down) true, .row 2 0 0 s.d1.syn.length, .row 3 0 0 s.d1.tail.length, .t (.i .i64 s.d1.cap) true, .t (.b s.d1.down) true, .t (.i .i64 s.next) true]) := by
  refine spec_ko (hold mixed) b_ref05_Twin [.row 0 1 (bT s.d0.syn) true, .row 0 1 (bT s.d0.tail) true, .row 0 1 (bT s.d1.syn) true, .row 0 1 (bT s.d1.tail) true]
    [.agg [.row 0 0 0 s.d0.syn.length, .row 1 0 0 s.d0.tail.length, .t (.i .i64 s.d0.cap) true, .t (.b s.d0.down) true, .row 2 0 0 s.d1.syn.length, .row 3 0 0 s.d1.tail.length, .t (.i .i64 s.d1.cap) true, .t (.b s.d1.down) true, .t (.i .i64 s.next) true]] ?_
  simp -implicitDefEqProofs only [go_sem, reduceIte, Nat.reduceAdd, Nat.reduceSub, Nat.reduceMul, Nat.reduceLT, Nat.reduceLeDiff, Nat.reduceEqDiff, Nat.reduceBEq, Int.reduceLE, Int.reduceLT, Int.reduceToNat, Int.reduceMul, Int.reduceAdd, Int.reduceSub, Int.reduceNeg, Int.reduceEq, reduceCtorEq, Nat.reduceMod, Int.reduceBNe, Int.reduceBEq, Int.reduceGT, Int.reduceGE, Int.reduceNe, Int.cast_ofNat_Int, Int.natCast_zero, Int.natCast_one, bne_self_eq_false, gt_iff_lt, ge_iff_le, Int.lt_irrefl, Int.le_refl]
  refine call_d (s_ref01_Twin s.d0 h0) ?_
  simp -implicitDefEqProofs only [go_sem, reduceIte, Nat.reduceAdd, Nat.reduceSub, Nat.reduceMul, Nat.reduceLT, Nat.reduceLeDiff, Nat.reduceEqDiff, Nat.reduceBEq, Int.reduceLE, Int.reduceLT, Int.reduceToNat, Int.reduceMul, Int.reduceAdd, Int.reduceSub, Int.reduceNeg, Int.reduceEq, reduceCtorEq, Nat.reduceMod, Int.reduceBNe, Int.reduceBEq, Int.reduceGT, Int.reduceGE, Int.reduceNe, Int.cast_ofNat_Int, Int.natCast_zero, Int.natCast_one, bne_self_eq_false, gt_iff_lt, ge_iff_le, Int.lt_irrefl, Int.le_refl]
  refine call_d (s_ref01_Twin s.d1 h1) ?_
  simp -implicitDefEqProofs only [go_sem, reduceIte, Nat.reduceAdd, Nat.reduceSub, Nat.reduceMul, Nat.reduceLT, Nat.reduceLeDiff, Nat.reduceEqDiff, Nat.reduceBEq, Int.reduceLE, Int.reduceLT, Int.reduceToNat, Int.reduceMul, Int.reduceAdd, Int.reduceSub, Int.reduceNeg, Int.reduceEq, reduceCtorEq, Nat.reduceMod]
  refine ends_mk [2, 3, 4, 5] ?_ ?_
  · simp -implicitDefEqProofs only [go_sem, reduceIte, Nat.reduceAdd, Nat.reduceSub, Nat.reduceMul, Nat.reduceLT, Nat.reduceLeDiff, Nat.reduceEqDiff, Nat.reduceBEq, Int.reduceLE, Int.reduceLT, Int.reduceToNat, Int.reduceMul, Int.reduceAdd, Int.reduceSub, Int.reduceNeg, Int.reduceEq, reduceCtorEq, Nat.reduceMod, bT_take_self]
  · simp -implicitDefEqProofs only [go_sem, reduceIte, Nat.reduceAdd, Nat.reduceSub, Nat.reduceMul, Nat.reduceLT, Nat.reduceLeDiff, Nat.reduceEqDiff, Nat.reduceBEq, Int.reduceLE, Int.reduceLT, Int.reduceToNat, Int.reduceMul, Int.reduceAdd, Int.reduceSub, Int.reduceNeg, Int.reduceEq, reduceCtorEq, Nat.reduceMod]
end Go.Proofs.Ytdpnjhooehadmaa.Pm

/-! PmSf -/
set_option linter.all false
set_option maxRecDepth 100000
set_option maxHeartbeats 2000000
namespace Go.Proofs.Ytdpnjhooehadmaa.Pm
open Go Go.RowKit

theorem s_ref05_Load (s : Slt) (hs : s.fine) : Spec Try.prog 26 [.agg s.cells] [] (resV ((opL (loadS s)).map AV.ofT)) := by
  refine spec_k (hold mixed) b_ref05_Load (opL (loadS s)) ?_
  have hC := s_ref05_Check s hs
  have hN := s_ref05_Newest s hs.1 hs.2.1
  by_cases h : s.ok
  · rw [chkS_ok h] at hC
    cases ho : newO s with
    | none =>
      have ev : loadS s = (0, [], 6) := by simp only [loadS, if_pos h, ho]
      rw [ev]
      rw [ho] at hN
      simp -implicitDefEqProofs only [go_sem, reduceIte, Nat.reduceAdd, Nat.reduceSub, Nat.reduceMul, Nat.reduceLT, Nat.reduceLeDiff, Nat.reduceEqDiff, Nat.reduceBEq, Int.reduceLE, Int.reduceLT, Int.reduceToNat, Int.reduceMul, Int.reduceAdd, Int.reduceSub, Int.reduceNeg, Int.reduceEq, reduceCtorEq, Nat.reduceMod, Int.reduceBNe, Int.reduceBEq, Int.reduceGT, Int.reduceGE, Int.reduceNe, Int.cast_ofNat_Int, Int.natCast_zero, Int.natCast_one, bne_self_eq_false, gt_iff_lt, ge_iff_le, Int.lt_irrefl, Int.le_refl]
      refine call_k hC ?_
      simp -implicitDefEqProofs only [go_sem, reduceIte, Nat.reduceAdd, Nat.reduceSub, Nat.reduceMul, Nat.reduceLT, Nat.reduceLeDiff, Nat.reduceEqDiff, Nat.reduceBEq, Int.reduceLE, Int.reduceLT, Int.reduceToNat, Int.reduceMul, Int.reduceAdd, Int.reduceSub, Int.reduceNeg, Int.reduceEq, reduceCtorEq, Nat.reduceMod, Int.reduceBNe, Int.reduceBEq, Int.reduceGT, Int.reduceGE, Int.reduceNe, Int.cast_ofNat_Int, Int.natCast_zero, Int.natCast_one, bne_self_eq_false, gt_iff_lt, ge_iff_le, Int.lt_irrefl, Int.le_refl]
      refine call_k hN ?_ (hl := by simp -implicitDefEqProofs only [go_sem, reduceIte, Nat.reduceAdd, Nat.reduceSub, Nat.reduceMul, Nat.reduceLT, Nat.reduceLeDiff, Nat.reduceEqDiff, Nat.reduceBEq, Int.reduceLE, Int.reduceLT, Int.reduceToNat, Int.reduceMul, Int.reduceAdd, Int.reduceSub, Int.reduceNeg, Int.reduceEq, reduceCtorEq, Nat.reduceMod, cpT])
      simp -implicitDefEqProofs only [go_sem, reduceIte, Nat.reduceAdd, Nat.reduceSub, Nat.reduceMul, Nat.reduceLT, Nat.reduceLeDiff, Nat.reduceEqDiff, Nat.reduceBEq, Int.reduceLE, Int.reduceLT, Int.reduceToNat, Int.reduceMul, Int.reduceAdd, Int.reduceSub, Int.reduceNeg, Int.reduceEq, reduceCtorEq, Nat.reduceMod, Int.reduceBNe, Int.reduceBEq, Int.reduceGT, Int.reduceGE, Int.reduceNe, Int.cast_ofNat_Int, Int.natCast_zero, Int.natCast_one, bne_self_eq_false, gt_iff_lt, ge_iff_le, Int.lt_irrefl, Int.le_refl, cpT, Option.getD, Option.isSome, Rec.cells, opL]
      try simp -implicitDefEqProofs only [go_sem, reduceIte, Nat.reduceAdd, Nat.reduceSub, Nat.reduceMul, Nat.reduceLT, Nat.reduceLeDiff, Nat.reduceEqDiff, Nat.reduceBEq, Int.reduceLE, Int.reduceLT, Int.reduceToNat, Int.reduceMul, Int.reduceAdd, Int.reduceSub, Int.reduceNeg, Int.reduceEq, reduceCtorEq, Nat.reduceMod, Int.reduceBNe, Int.reduceBEq, Int.reduceGT, Int.reduceGE, Int.reduceNe, Int.cast_ofNat_Int, Int.natCast_zero, Int.natCast_one, bne_self_eq_false, gt_iff_lt, ge_iff_le, Int.lt_irrefl, Int.le_refl, bT, List.map]
    | some r =>
      have ev : loadS s = (r.num, r.data, 0) := by simp only [loadS, if_pos h, ho]
      rw [ev]
      rw [ho] at hN
      simp -implicitDefEqProofs only [go_sem, reduceIte, Nat.reduceAdd, Nat.reduceSub, Nat.reduceMul, Nat.reduceLT, Nat.reduceLeDiff, Nat.reduceEqDiff, Nat.reduceBEq, Int.reduceLE, Int.reduceLT, Int.reduceToNat, Int.reduceMul, Int.reduceAdd, Int.reduceSub, Int.reduceNeg, Int.reduceEq, reduceCtorEq, Nat.reduceMod, Int.reduceBNe, Int.reduceBEq, Int.reduceGT, Int.reduceGE, Int.reduceNe, Int.cast_ofNat_Int, Int.natCast_zero, Int.natCast_one, bne_self_eq_false, gt_iff_lt, ge_iff_le, Int.lt_irrefl, Int.le_refl]
      refine call_k hC ?_
      simp -implicitDefEqProofs only [go_sem, reduceIte, Nat.reduceAdd, Nat.reduceSub, Nat.reduceMul, Nat.reduceLT, Nat.reduceLeDiff, Nat.reduceEqDiff, Nat.reduceBEq, Int.reduceLE, Int.reduceLT, Int.reduceToNat, Int.reduceMul, Int.reduceAdd, Int.reduceSub, Int.reduceNeg, Int.reduceEq, reduceCtorEq, Nat.reduceMod, Int.reduceBNe, Int.reduceBEq, Int.reduceGT, Int.reduceGE, Int.reduceNe, Int.cast_ofNat_Int, Int.natCast_zero, Int.natCast_one, bne_self_eq_false, gt_iff_lt, ge_iff_le, Int.lt_irrefl, Int.le_refl]
      refine call_k hN ?_ (hl := by simp -implicitDefEqProofs only [go_sem, reduceIte, Nat.reduceAdd, Nat.reduceSub, Nat.reduceMul, Nat.reduceLT, Nat.reduceLeDiff, Nat.reduceEqDiff, Nat.reduceBEq, Int.reduceLE, Int.reduceLT, Int.reduceToNat, Int.reduceMul, Int.reduceAdd, Int.reduceSub, Int.reduceNeg, Int.reduceEq, reduceCtorEq, Nat.reduceMod, cpT])
      simp -implicitDefEqProofs only [go_sem, reduceIte, Nat.reduceAdd, Nat.reduceSub, Nat.reduceMul, Nat.reduceLT, Nat.reduceLeDiff, Nat.reduceEqDiff, Nat.reduceBEq, Int.reduceLE, Int.reduceLT, Int.reduceToNat, Int.reduceMul, Int.reduceAdd, Int.reduceSub, Int.reduceNeg, Int.reduceEq, reduceCtorEq, Nat.reduceMod, Int.reduceBNe, Int.reduceBEq, Int.reduceGT, Int.reduceGE, Int.reduceNe, Int.cast_ofNat_Int, Int.natCast_zero, Int.natCast_one, bne_self_eq_false, gt_iff_lt, ge_iff_le, Int.lt_irrefl, Int.le_refl, cpT, Option.getD, Option.isSome, Rec.cells, opL]
  · have ev : loadS s = (0, [], 8) := by simp only [loadS, if_neg h]
    rw [chkS_bad h] at hC
    rw [ev]
    simp -implicitDefEqProofs only [go_sem, reduceIte, Nat.reduceAdd, Nat.reduceSub, Nat.reduceMul, Nat.reduceLT, Nat.reduceLeDiff, Nat.reduceEqDiff, Nat.reduceBEq, Int.reduceLE, Int.reduceLT, Int.reduceToNat, Int.reduceMul, Int.reduceAdd, Int.reduceSub, Int.reduceNeg, Int.reduceEq, reduceCtorEq, Nat.reduceMod, Int.reduceBNe, Int.reduceBEq, Int.reduceGT, Int.reduceGE, Int.reduceNe, Int.cast_ofNat_Int, Int.natCast_zero, Int.natCast_one, bne_self_eq_false, gt_iff_lt, ge_iff_le, Int.lt_irrefl, Int.le_refl]
    refine call_k hC ?_
    simp -implicitDefEqProofs only [go_sem, reduceIte, Nat.reduceAdd, Nat.reduceSub, Nat.reduceMul, Nat.reduceLT, Nat.reduceLeDiff, Nat.reduceEqDiff, Nat.reduceBEq, Int.reduceLE, Int.reduceLT, Int.reduceToNat, Int.reduceMul, Int.reduceAdd, Int.reduceSub, Int.reduceNeg, Int.reduceEq, reduceCtorEq, Nat.reduceMod, Int.reduceBNe, Int.reduceBEq, Int.reduceGT, Int.reduceGE, Int.reduceNe, Int.cast_ofNat_Int, Int.natCast_zero, Int.natCast_one, bne_self_eq_false, gt_iff_lt, ge_iff_le, Int.lt_irrefl, Int.le_refl]
    refine call_k hC ?_
    simp -implicitDefEqProofs only [go_sem, reduceIte, Nat.reduceAdd, Nat.reduceSub, Nat.reduceMul, Nat.reduceLT, Nat.reduceLeDiff, Nat.reduceEqDiff, Nat.reduceBEq, Int.reduceLE, Int.reduceLT, Int.reduceToNat, Int.reduceMul, Int.reduceAdd, Int.reduceSub, Int.reduceNeg, Int.reduceEq, reduceCtorEq, Nat.reduceMod, Int.reduceBNe, Int.reduceBEq, Int.reduceGT, Int.reduceGE, Int.reduceNe, Int.cast_ofNat_Int, Int.natCast_zero, Int.natCast_one, bne_self_eq_false, gt_iff_lt, ge_iff_le, Int.lt_irrefl, Int.le_refl, opL]
    try simp -implicitDefEqProofs only [go_sem, reduceIte, Nat.reduceAdd, Nat.reduceSub, Nat.reduceMul, Nat.reduceLT, Nat.reduceLeDiff, Nat.reduceEqDiff, Nat.reduceBEq, Int.reduceLE, Int.reduceLT, Int.reduceToNat, Int.reduceMul, Int.reduceAdd, Int.reduceSub, Int.reduceNeg, Int.reduceEq, reduceCtorEq, Nat.reduceMod, Int.reduceBNe, Int.reduceBEq, Int.reduceGT, Int.reduceGE, Int.reduceNe, Int.cast_ofNat_Int, Int.natCast_zero, Int.natCast_one, bne_self_eq_false, gt_iff_lt, ge_iff_le, Int.lt_irrefl, Int.le_refl, bT, List.map]
theorem s_ref05_Open (s : Slt) (hs : s.fine) : Spec Try.prog 28 [.agg s.cells] [] (resV ((opS (openS s)).map AV.ofT)) := by
  refine spec_k (hold mixed) b_ref05_Open (opS (openS s)) ?_
  have c8 : ∀ d : Dev, d.check = 8 ∨ d.check = 0 := fun d => by unfold Dev.check; split <;> simp
  have hC0 := s_ref01_Check s.d0 hs.1
  have hC1 := s_ref01_Check s.d1 hs.2.1
  have hW0 := s_ref01_Whole s.d0 hs.1
  have hW1 := s_ref01_Whole s.d1 hs.2.1
  rw [show s.d0.syn ++ s.d0.tail = s.d0.all from rfl] at hW0
  rw [show s.d1.syn ++ s.d1.tail = s.d1.all from rfl] at hW1
  rcases c8 s.d0 with hc | hc
  · have ev : openS s = (zeroS, 8) := if_neg (by omega)
    rw [ev]
    rw [hc] at hC0
    simp -implicitDefEqProofs only [go_sem, reduceIte, Nat.reduceAdd, Nat.reduceSub, Nat.reduceMul, Nat.reduceLT, Nat.reduceLeDiff, Nat.reduceEqDiff, Nat.reduceBEq, Int.reduceLE, Int.reduceLT, Int.reduceToNat, Int.reduceMul, Int.reduceAdd, Int.reduceSub, Int.reduceNeg, Int.reduceEq, reduceCtorEq, Nat.reduceMod, Int.reduceBNe, Int.reduceBEq, Int.reduceGT, Int.reduceGE, Int.reduceNe, Int.cast_ofNat_Int, Int.natCast_zero, Int.natCast_one, bne_self_eq_false, gt_iff_lt, ge_iff_le, Int.lt_irrefl, Int.le_refl]
    refine loop_u 3 (ln_step (by simp -implicitDefEqProofs only [go_sem, reduceIte, Nat.reduceAdd, Nat.reduceSub, Nat.reduceMul, Nat.reduceLT, Nat.reduceLeDiff, Nat.reduceEqDiff, Nat.reduceBEq, Int.reduceLE, Int.reduceLT, Int.reduceToNat, Int.reduceMul, Int.reduceAdd, Int.reduceSub, Int.reduceNeg, Int.reduceEq, reduceCtorEq, Nat.reduceMod]; rfl) fun R hR => ?_)
    simp -implicitDefEqProofs only [go_sem, reduceIte, Nat.reduceAdd, Nat.reduceSub, Nat.reduceMul, Nat.reduceLT, Nat.reduceLeDiff, Nat.reduceEqDiff, Nat.reduceBEq, Int.reduceLE, Int.reduceLT, Int.reduceToNat, Int.reduceMul, Int.reduceAdd, Int.reduceSub, Int.reduceNeg, Int.reduceEq, reduceCtorEq, Nat.reduceMod, Int.reduceBNe, Int.reduceBEq, Int.reduceGT, Int.reduceGE, Int.reduceNe, Int.cast_ofNat_Int, Int.natCast_zero, Int.natCast_one, bne_self_eq_false, gt_iff_lt, ge_iff_le, Int.lt_irrefl, Int.le_refl]
    refine call_k hC0 ?_
    simp -implicitDefEqProofs only [go_sem, reduceIte, Nat.reduceAdd, Nat.reduceSub, Nat.reduceMul, Nat.reduceLT, Nat.reduceLeDiff, Nat.reduceEqDiff, Nat.reduceBEq, Int.reduceLE, Int.reduceLT, Int.reduceToNat, Int.reduceMul, Int.reduceAdd, Int.reduceSub, Int.reduceNeg, Int.reduceEq, reduceCtorEq, Nat.reduceMod, Int.reduceBNe, Int.reduceBEq, Int.reduceGT, Int.reduceGE, Int.reduceNe, Int.cast_ofNat_Int, Int.natCast_zero, Int.natCast_one, bne_self_eq_false, gt_iff_lt, ge_iff_le, Int.lt_irrefl, Int.le_refl, opS, zeroS_cells]
    try rfl
  rcases c8 s.d1 with hc1 | hc1
  · have ev : openS s = (zeroS, 8) := if_neg (by omega)
    rw [ev]
    rw [hc] at hC0
    rw [hc1] at hC1
    simp -implicitDefEqProofs only [go_sem, reduceIte, Nat.reduceAdd, Nat.reduceSub, Nat.reduceMul, Nat.reduceLT, Nat.reduceLeDiff, Nat.reduceEqDiff, Nat.reduceBEq, Int.reduceLE, Int.reduceLT, Int.reduceToNat, Int.reduceMul, Int.reduceAdd, Int.reduceSub, Int.reduceNeg, Int.reduceEq, reduceCtorEq, Nat.reduceMod, Int.reduceBNe, Int.reduceBEq, Int.reduceGT, Int.reduceGE, Int.reduceNe, Int.cast_ofNat_Int, Int.natCast_zero, Int.natCast_one, bne_self_eq_false, gt_iff_lt, ge_iff_le, Int.lt_irrefl, Int.le_refl]
    refine loop_u 3 (ln_step (by simp -implicitDefEqProofs only [go_sem, reduceIte, Nat.reduceAdd, Nat.reduceSub, Nat.reduceMul, Nat.reduceLT, Nat.reduceLeDiff, Nat.reduceEqDiff, Nat.reduceBEq, Int.reduceLE, Int.reduceLT, Int.reduceToNat, Int.reduceMul, Int.reduceAdd, Int.reduceSub, Int.reduceNeg, Int.reduceEq, reduceCtorEq, Nat.reduceMod]; rfl) fun R hR => ?_)
    simp -implicitDefEqProofs only [go_sem, reduceIte, Nat.reduceAdd, Nat.reduceSub, Nat.reduceMul, Nat.reduceLT, Nat.reduceLeDiff, Nat.reduceEqDiff, Nat.reduceBEq, Int.reduceLE, Int.reduceLT, Int.reduceToNat, Int.reduceMul, Int.reduceAdd, Int.reduceSub, Int.reduceNeg, Int.reduceEq, reduceCtorEq, Nat.reduceMod, Int.reduceBNe, Int.reduceBEq, Int.reduceGT, Int.reduceGE, Int.reduceNe, Int.cast_ofNat_Int, Int.natCast_zero, Int.natCast_one, bne_self_eq_false, gt_iff_lt, ge_iff_le, Int.lt_irrefl, Int.le_refl]
    refine call_k hC0 ?_
    simp -implicitDefEqProofs only [go_sem, reduceIte, Nat.reduceAdd, Nat.reduceSub, Nat.reduceMul, Nat.reduceLT, Nat.reduceLeDiff, Nat.reduceEqDiff, Nat.reduceBEq, Int.reduceLE, Int.reduceLT, Int.reduceToNat, Int.reduceMul, Int.reduceAdd, Int.reduceSub, Int.reduceNeg, Int.reduceEq, reduceCtorEq, Nat.reduceMod, Int.reduceBNe, Int.reduceBEq, Int.reduceGT, Int.reduceGE, Int.reduceNe, Int.cast_ofNat_Int, Int.natCast_zero, Int.natCast_one, bne_self_eq_false, gt_iff_lt, ge_iff_le, Int.lt_irrefl, Int.le_refl]
    refine call_d hW0 ?_
    simp -implicitDefEqProofs only [go_sem, reduceIte, Nat.reduceAdd, Nat.reduceSub, Nat.reduceMul, Nat.reduceLT, Nat.reduceLeDiff, Nat.reduceEqDiff, Nat.reduceBEq, Int.reduceLE, Int.reduceLT, Int.reduceToNat, Int.reduceMul, Int.reduceAdd, Int.reduceSub, Int.reduceNeg, Int.reduceEq, reduceCtorEq, Nat.reduceMod, Int.reduceBNe, Int.reduceBEq, Int.reduceGT, Int.reduceGE, Int.reduceNe, Int.cast_ofNat_Int, Int.natCast_zero, Int.natCast_one, bne_self_eq_false, gt_iff_lt, ge_iff_le, Int.lt_irrefl, Int.le_refl]
    refine hR _ (ln_step (by simp -implicitDefEqProofs only [go_sem, reduceIte, Nat.reduceAdd, Nat.reduceSub, Nat.reduceMul, Nat.reduceLT, Nat.reduceLeDiff, Nat.reduceEqDiff, Nat.reduceBEq, Int.reduceLE, Int.reduceLT, Int.reduceToNat, Int.reduceMul, Int.reduceAdd, Int.reduceSub, Int.reduceNeg, Int.reduceEq, reduceCtorEq, Nat.reduceMod]; rfl) fun R2 hR2 => ?_)
    simp -implicitDefEqProofs only [go_sem, reduceIte, Nat.reduceAdd, Nat.reduceSub, Nat.reduceMul, Nat.reduceLT, Nat.reduceLeDiff, Nat.reduceEqDiff, Nat.reduceBEq, Int.reduceLE, Int.reduceLT, Int.reduceToNat, Int.reduceMul, Int.reduceAdd, Int.reduceSub, Int.reduceNeg, Int.reduceEq, reduceCtorEq, Nat.reduceMod, Int.reduceBNe, Int.reduceBEq, Int.reduceGT, Int.reduceGE, Int.reduceNe, Int.cast_ofNat_Int, Int.natCast_zero, Int.natCast_one, bne_self_eq_false, gt_iff_lt, ge_iff_le, Int.lt_irrefl, Int.le_refl]
    refine call_k hC1 ?_
    simp -implicitDefEqProofs only [go_sem, reduceIte, Nat.reduceAdd, Nat.reduceSub, Nat.reduceMul, Nat.reduceLT, Nat.reduceLeDiff, Nat.reduceEqDiff, Nat.reduceBEq, Int.reduceLE, Int.reduceLT, Int.reduceToNat, Int.reduceMul, Int.reduceAdd, Int.reduceSub, Int.reduceNeg, Int.reduceEq, reduceCtorEq, Nat.reduceMod, Int.reduceBNe, Int.reduceBEq, Int.reduceGT, Int.reduceGE, Int.reduceNe, Int.cast_ofNat_Int, Int.natCast_zero, Int.natCast_one, bne_self_eq_false, gt_iff_lt, ge_iff_le, Int.lt_irrefl, Int.le_refl, opS, zeroS_cells]
    try rfl
  have ev : openS s = (⟨openD s.d0, openD s.d1, nextO ⟨openD s.d0, openD s.d1, 0⟩⟩, 0) := if_pos ⟨hc, hc1⟩
  have hN := s_ref05_Newest ⟨openD s.d0, openD s.d1, 1⟩ (openD_small hs.1 hc) (openD_small hs.2.1 hc1)
  have l0 := all_small hc
  have l1 := all_small hc1
  rw [hc] at hC0
  rw [hc1] at hC1
  rw [ev]
  simp -implicitDefEqProofs only [go_sem, reduceIte, Nat.reduceAdd, Nat.reduceSub, Nat.reduceMul, Nat.reduceLT, Nat.reduceLeDiff, Nat.reduceEqDiff, Nat.reduceBEq, Int.reduceLE, Int.reduceLT, Int.reduceToNat, Int.reduceMul, Int.reduceAdd, Int.reduceSub, Int.reduceNeg, Int.reduceEq, reduceCtorEq, Nat.reduceMod, Int.reduceBNe, Int.reduceBEq, Int.reduceGT, Int.reduceGE, Int.reduceNe, Int.cast_ofNat_Int, Int.natCast_zero, Int.natCast_one, bne_self_eq_false, gt_iff_lt, ge_iff_le, Int.lt_irrefl, Int.le_refl]
  refine loop_u 3 (ln_step (by simp -implicitDefEqProofs only [go_sem, reduceIte, Nat.reduceAdd, Nat.reduceSub, Nat.reduceMul, Nat.reduceLT, Nat.reduceLeDiff, Nat.reduceEqDiff, Nat.reduceBEq, Int.reduceLE, Int.reduceLT, Int.reduceToNat, Int.reduceMul, Int.reduceAdd, Int.reduceSub, Int.reduceNeg, Int.reduceEq, reduceCtorEq, Nat.reduceMod]; rfl) fun R hR => ?_)
  simp -implicitDefEqProofs only [go_sem, reduceIte, Nat.reduceAdd, Nat.reduceSub, Nat.reduceMul, Nat.reduceLT, Nat.reduceLeDiff, Nat.reduceEqDiff, Nat.reduceBEq, Int.reduceLE, Int.reduceLT, Int.reduceToNat, Int.reduceMul, Int.reduceAdd, Int.reduceSub, Int.reduceNeg, Int.reduceEq, reduceCtorEq, Nat.reduceMod, Int.reduceBNe, Int.reduceBEq, Int.reduceGT, Int.reduceGE, Int.reduceNe, Int.cast_ofNat_Int, Int.natCast_zero, Int.natCast_one, bne_self_eq_false, gt_iff_lt, ge_iff_le, Int.lt_irrefl, Int.le_refl]
  refine call_k hC0 ?_
  simp -implicitDefEqProofs only [go_sem, reduceIte, Nat.reduceAdd, Nat.reduceSub, Nat.reduceMul, Nat.reduceLT, Nat.reduceLeDiff, Nat.reduceEqDiff, Nat.reduceBEq, Int.reduceLE, Int.reduceLT, Int.reduceToNat, Int.reduceMul, Int.reduceAdd, Int.reduceSub, Int.reduceNeg, Int.reduceEq, reduceCtorEq, Nat.reduceMod, Int.reduceBNe, Int.reduceBEq, Int.reduceGT, Int.reduceGE, Int.reduceNe, Int.cast_ofNat_Int, Int.natCast_zero, Int.natCast_one, bne_self_eq_false, gt_iff_lt, ge_iff_le, Int.lt_irrefl, Int.le_refl]
  refine call_d hW0 ?_
  simp -implicitDefEqProofs only [go_sem, reduceIte, Nat.reduceAdd, Nat.reduceSub, Nat.reduceMul, Nat.reduceLT, Nat.reduceLeDiff, Nat.reduceEqDiff, Nat.reduceBEq, Int.reduceLE, Int.reduceLT, Int.reduceToNat, Int.reduceMul, Int.reduceAdd, Int.reduceSub, Int.reduceNeg, Int.reduceEq, reduceCtorEq, Nat.reduceMod, Int.reduceBNe, Int.reduceBEq, Int.reduceGT, Int.reduceGE, Int.reduceNe, Int.cast_ofNat_Int, Int.natCast_zero, Int.natCast_one, bne_self_eq_false, gt_iff_lt, ge_iff_le, Int.lt_irrefl, Int.le_refl]
  refine hR _ (ln_step (by simp -implicitDefEqProofs only [go_sem, reduceIte, Nat.reduceAdd, Nat.reduceSub, Nat.reduceMul, Nat.reduceLT, Nat.reduceLeDiff, Nat.reduceEqDiff, Nat.reduceBEq, Int.reduceLE, Int.reduceLT, Int.reduceToNat, Int.reduceMul, Int.reduceAdd, Int.reduceSub, Int.reduceNeg, Int.reduceEq, reduceCtorEq, Nat.reduceMod, bT_take_self]; rfl) fun R2 hR2 => ?_)
  simp -implicitDefEqProofs only [go_sem, reduceIte, Nat.reduceAdd, Nat.reduceSub, Nat.reduceMul, Nat.reduceLT, Nat.reduceLeDiff, Nat.reduceEqDiff, Nat.reduceBEq, Int.reduceLE, Int.reduceLT, Int.reduceToNat, Int.reduceMul, Int.reduceAdd, Int.reduceSub, Int.reduceNeg, Int.reduceEq, reduceCtorEq, Nat.reduceMod, Int.reduceBNe, Int.reduceBEq, Int.reduceGT, Int.reduceGE, Int.reduceNe, Int.cast_ofNat_Int, Int.natCast_zero, Int.natCast_one, bne_self_eq_false, gt_iff_lt, ge_iff_le, Int.lt_irrefl, Int.le_refl]
  refine call_k hC1 ?_
  simp -implicitDefEqProofs only [go_sem, reduceIte, Nat.reduceAdd, Nat.reduceSub, Nat.reduceMul, Nat.reduceLT, Nat.reduceLeDiff, Nat.reduceEqDiff, Nat.reduceBEq, Int.reduceLE, Int.reduceLT, Int.reduceToNat, Int.reduceMul, Int.reduceAdd, Int.reduceSub, Int.reduceNeg, Int.reduceEq, reduceCtorEq, Nat.reduceMod, Int.reduceBNe, Int.reduceBEq, Int.reduceGT, Int.reduceGE, Int.reduceNe, Int.cast_ofNat_Int, Int.natCast_zero, Int.natCast_one, bne_self_eq_false, gt_iff_lt, ge_iff_le, Int.lt_irrefl, Int.le_refl]
  refine call_d hW1 ?_
  simp -implicitDefEqProofs only [go_sem, reduceIte, Nat.reduceAdd, Nat.reduceSub, Nat.reduceMul, Nat.reduceLT, Nat.reduceLeDiff, Nat.reduceEqDiff, Nat.reduceBEq, Int.reduceLE, Int.reduceLT, Int.reduceToNat, Int.reduceMul, Int.reduceAdd, Int.reduceSub, Int.reduceNeg, Int.reduceEq, reduceCtorEq, Nat.reduceMod, Int.reduceBNe, Int.reduceBEq, Int.reduceGT, Int.reduceGE, Int.reduceNe, Int.cast_ofNat_Int, Int.natCast_zero, Int.natCast_one, bne_self_eq_false, gt_iff_lt, ge_iff_le, Int.lt_irrefl, Int.le_refl]
  refine hR2 _ (ln_step (by simp -implicitDefEqProofs only [go_sem, reduceIte, Nat.reduceAdd, Nat.reduceSub, Nat.reduceMul, Nat.reduceLT, Nat.reduceLeDiff, Nat.reduceEqDiff, Nat.reduceBEq, Int.reduceLE, Int.reduceLT, Int.reduceToNat, Int.reduceMul, Int.reduceAdd, Int.reduceSub, Int.reduceNeg, Int.reduceEq, reduceCtorEq, Nat.reduceMod, bT_take_self]; rfl) fun R3 hR3 => ?_)
  simp -implicitDefEqProofs only [go_sem, reduceIte, Nat.reduceAdd, Nat.reduceSub, Nat.reduceMul, Nat.reduceLT, Nat.reduceLeDiff, Nat.reduceEqDiff, Nat.reduceBEq, Int.reduceLE, Int.reduceLT, Int.reduceToNat, Int.reduceMul, Int.reduceAdd, Int.reduceSub, Int.reduceNeg, Int.reduceEq, reduceCtorEq, Nat.reduceMod, Int.reduceBNe, Int.reduceBEq, Int.reduceGT, Int.reduceGE, Int.reduceNe, Int.cast_ofNat_Int, Int.natCast_zero, Int.natCast_one, bne_self_eq_false, gt_iff_lt, ge_iff_le, Int.lt_irrefl, Int.le_refl]
  cases ho : newO ⟨openD s.d0, openD s.d1, 1⟩ with
  | none =>
    have en : nextO ⟨openD s.d0, openD s.d1, 0⟩ = 1 := by simp only [nextO, newO_next _ _ 0 1, ho]
    rw [ho] at hN
    rw [en]
    refine call_k hN ?_ (by simp -implicitDefEqProofs only [go_sem, reduceIte, Nat.reduceAdd, Nat.reduceSub, Nat.reduceMul, Nat.reduceLT, Nat.reduceLeDiff, Nat.reduceEqDiff, Nat.reduceBEq, Int.reduceLE, Int.reduceLT, Int.reduceToNat, Int.reduceMul, Int.reduceAdd, Int.reduceSub, Int.reduceNeg, Int.reduceEq, reduceCtorEq, Nat.reduceMod, openD, bT_take_self]; rfl) (by simp -implicitDefEqProofs only [go_sem, reduceIte, Nat.reduceAdd, Nat.reduceSub, Nat.reduceMul, Nat.reduceLT, Nat.reduceLeDiff, Nat.reduceEqDiff, Nat.reduceBEq, Int.reduceLE, Int.reduceLT, Int.reduceToNat, Int.reduceMul, Int.reduceAdd, Int.reduceSub, Int.reduceNeg, Int.reduceEq, reduceCtorEq, Nat.reduceMod, cpT])
    simp -implicitDefEqProofs only [go_sem, reduceIte, Nat.reduceAdd, Nat.reduceSub, Nat.reduceMul, Nat.reduceLT, Nat.reduceLeDiff, Nat.reduceEqDiff, Nat.reduceBEq, Int.reduceLE, Int.reduceLT, Int.reduceToNat, Int.reduceMul, Int.reduceAdd, Int.reduceSub, Int.reduceNeg, Int.reduceEq, reduceCtorEq, Nat.reduceMod, Int.reduceBNe, Int.reduceBEq, Int.reduceGT, Int.reduceGE, Int.reduceNe, Int.cast_ofNat_Int, Int.natCast_zero, Int.natCast_one, bne_self_eq_false, gt_iff_lt, ge_iff_le, Int.lt_irrefl, Int.le_refl, cpT, Option.getD, Option.isSome, Rec.cells, opS, openD, bT_take_self]
    try rfl
  | some r =>
    obtain ⟨p0, p1, p2⟩ := newO_ok ho
    have en : nextO ⟨openD s.d0, openD s.d1, 0⟩ = r.num + 1 := by simp only [nextO, newO_next _ _ 0 1, ho]
    have w1 : IntKind.i64.wrap (r.num + 1) = r.num + 1 := wrap_i64_id (by omega) (by omega)
    rw [ho] at hN
    rw [en]
    refine call_k hN ?_ (by simp -implicitDefEqProofs only [go_sem, reduceIte, Nat.reduceAdd, Nat.reduceSub, Nat.reduceMul, Nat.reduceLT, Nat.reduceLeDiff, Nat.reduceEqDiff, Nat.reduceBEq, Int.reduceLE, Int.reduceLT, Int.reduceToNat, Int.reduceMul, Int.reduceAdd, Int.reduceSub, Int.reduceNeg, Int.reduceEq, reduceCtorEq, Nat.reduceMod, openD, bT_take_self]; rfl) (by simp -implicitDefEqProofs only [go_sem, reduceIte, Nat.reduceAdd, Nat.reduceSub, Nat.reduceMul, Nat.reduceLT, Nat.reduceLeDiff, Nat.reduceEqDiff, Nat.reduceBEq, Int.reduceLE, Int.reduceLT, Int.reduceToNat, Int.reduceMul, Int.reduceAdd, Int.reduceSub, Int.reduceNeg, Int.reduceEq, reduceCtorEq, Nat.reduceMod, cpT])
    simp -implicitDefEqProofs only [go_sem, reduceIte, Nat.reduceAdd, Nat.reduceSub, Nat.reduceMul, Nat.reduceLT, Nat.reduceLeDiff, Nat.reduceEqDiff, Nat.reduceBEq, Int.reduceLE, Int.reduceLT, Int.reduceToNat, Int.reduceMul, Int.reduceAdd, Int.reduceSub, Int.reduceNeg, Int.reduceEq, reduceCtorEq, Nat.reduceMod, Int.reduceBNe, Int.reduceBEq, Int.reduceGT, Int.reduceGE, Int.reduceNe, Int.cast_ofNat_Int, Int.natCast_zero, Int.natCast_one, bne_self_eq_false, gt_iff_lt, ge_iff_le, Int.lt_irrefl, Int.le_refl, cpT, Option.getD, Option.isSome, Rec.cells, w1, opS, openD, bT_take_self]
    try rfl
def sameS (a b : Slt) : Bool := decide (a.next = b.next) && (sameD a.d0 b.d0 && sameD a.d1 b.d1)
theorem sameS_self (a : Slt) : sameS a a = true := by simp [sameS, sameD_self]
theorem s_ref05_Same (a b : Slt) (h0 : a.d0.small) (h1 : a.d1.small) (g0 : b.d0.small) (g1 : b.d1.small) : Spec Try.prog 30 [.agg a.cells, .agg b.cells] [] (.t (.b (sameS a b)) true) := by
  refine spec_k (hold mixed) b_ref05_Same [(.b (sameS a b), true)] ?_
  by_cases c0 : a.next = b.next
  · have c0' : (b.next == b.next) = true := by simp
    simp -implicitDefEqProofs only [go_sem, reduceIte, Nat.reduceAdd, Nat.reduceSub, Nat.reduceMul, Nat.reduceLT, Nat.reduceLeDiff, Nat.reduceEqDiff, Nat.reduceBEq, Int.reduceLE, Int.reduceLT, Int.reduceToNat, Int.reduceMul, Int.reduceAdd, Int.reduceSub, Int.reduceNeg, Int.reduceEq, reduceCtorEq, Nat.reduceMod, Int.reduceBNe, Int.reduceBEq, Int.reduceGT, Int.reduceGE, Int.reduceNe, Int.cast_ofNat_Int, Int.natCast_zero, Int.natCast_one, bne_self_eq_false, gt_iff_lt, ge_iff_le, Int.lt_irrefl, Int.le_refl, c0, c0']
    refine call_k (s_ref01_Same a.d0 b.d0 h0 g0) ?_
    by_cases c1 : sameD a.d0 b.d0 = true
    · simp -implicitDefEqProofs only [go_sem, reduceIte, Nat.reduceAdd, Nat.reduceSub, Nat.reduceMul, Nat.reduceLT, Nat.reduceLeDiff, Nat.reduceEqDiff, Nat.reduceBEq, Int.reduceLE, Int.reduceLT, Int.reduceToNat, Int.reduceMul, Int.reduceAdd, Int.reduceSub, Int.reduceNeg, Int.reduceEq, reduceCtorEq, Nat.reduceMod, Int.reduceBNe, Int.reduceBEq, Int.reduceGT, Int.reduceGE, Int.reduceNe, Int.cast_ofNat_Int, Int.natCast_zero, Int.natCast_one, bne_self_eq_false, gt_iff_lt, ge_iff_le, Int.lt_irrefl, Int.le_refl, c1]
      refine call_k (s_ref01_Same a.d1 b.d1 h1 g1) ?_
      simp -implicitDefEqProofs only [go_sem, reduceIte, Nat.reduceAdd, Nat.reduceSub, Nat.reduceMul, Nat.reduceLT, Nat.reduceLeDiff, Nat.reduceEqDiff, Nat.reduceBEq, Int.reduceLE, Int.reduceLT, Int.reduceToNat, Int.reduceMul, Int.reduceAdd, Int.reduceSub, Int.reduceNeg, Int.reduceEq, reduceCtorEq, Nat.reduceMod, Int.reduceBNe, Int.reduceBEq, Int.reduceGT, Int.reduceGE, Int.reduceNe, Int.cast_ofNat_Int, Int.natCast_zero, Int.natCast_one, bne_self_eq_false, gt_iff_lt, ge_iff_le, Int.lt_irrefl, Int.le_refl, sameS, c0, c1]
    · have c1 : sameD a.d0 b.d0 = false := by simpa using c1
      simp -implicitDefEqProofs only [go_sem, reduceIte, Nat.reduceAdd, Nat.reduceSub, Nat.reduceMul, Nat.reduceLT, Nat.reduceLeDiff, Nat.reduceEqDiff, Nat.reduceBEq, Int.reduceLE, Int.reduceLT, Int.reduceToNat, Int.reduceMul, Int.reduceAdd, Int.reduceSub, Int.reduceNeg, Int.reduceEq, reduceCtorEq, Nat.reduceMod, Int.reduceBNe, Int.reduceBEq, Int.reduceGT, Int.reduceGE, Int.reduceNe, Int.cast_ofNat_Int, Int.natCast_zero, Int.natCast_one, bne_self_eq_false, gt_iff_lt, ge_iff_le, Int.lt_irrefl, Int.le_refl, c1, sameS]
  · have c0' : (a.next == b.next) = false := by simp [c0]
    simp -implicitDefEqProofs only [go_sem, reduceIte, Nat.reduceAdd, Nat.reduceSub, Nat.reduceMul, Nat.reduceLT, Nat.reduceLeDiff, Nat.reduceEqDiff, Nat.reduceBEq, Int.reduceLE, Int.reduceLT, Int.reduceToNat, Int.reduceMul, Int.reduceAdd, Int.reduceSub, Int.reduceNeg, Int.reduceEq, reduceCtorEq, Nat.reduceMod, Int.reduceBNe, Int.reduceBEq, Int.reduceGT, Int.reduceGE, Int.reduceNe, Int.cast_ofNat_Int, Int.natCast_zero, Int.natCast_one, bne_self_eq_false, gt_iff_lt, ge_iff_le, Int.lt_irrefl, Int.le_refl, c0', sameS, c0]
def greatD (d : Dev) : Bool := decide (3000 < d.syn.length) || decide (3000 < d.tail.length)
theorem greatD_small {d : Dev} (h : greatD d = false) : d.small := by simp [greatD] at h; exact ⟨by omega, by omega⟩
theorem s_ref05_Great (s : Slt) : Spec Try.prog 23 [.agg s.cells] [] (.t (.b (greatD s.d0 || greatD s.d1)) true) := by
  refine spec_k (hold mixed) b_ref05_Great [(.b (greatD s.d0 || greatD s.d1), true)] ?_
  have h0 := s_ref01_Great s.d0
  have h1 := s_ref01_Great s.d1
  rw [show (decide (3000 < s.d0.syn.length) || decide (3000 < s.d0.tail.length)) = greatD s.d0 from rfl] at h0
  rw [show (decide (3000 < s.d1.syn.length) || decide (3000 < s.d1.tail.length)) = greatD s.d1 from rfl] at h1
  by_cases c0 : greatD s.d0 = true
  · rw [c0] at h0 ⊢
    simp -implicitDefEqProofs only [go_sem, reduceIte, Nat.reduceAdd, Nat.reduceSub, Nat.reduceMul, Nat.reduceLT, Nat.reduceLeDiff, Nat.reduceEqDiff, Nat.reduceBEq, Int.reduceLE, Int.reduceLT, Int.reduceToNat, Int.reduceMul, Int.reduceAdd, Int.reduceSub, Int.reduceNeg, Int.reduceEq, reduceCtorEq, Nat.reduceMod, Int.reduceBNe, Int.reduceBEq, Int.reduceGT, Int.reduceGE, Int.reduceNe, Int.cast_ofNat_Int, Int.natCast_zero, Int.natCast_one, bne_self_eq_false, gt_iff_lt, ge_iff_le, Int.lt_irrefl, Int.le_refl]
    refine call_k h0 ?_
    simp -implicitDefEqProofs only [go_sem, reduceIte, Nat.reduceAdd, Nat.reduceSub, Nat.reduceMul, Nat.reduceLT, Nat.reduceLeDiff, Nat.reduceEqDiff, Nat.reduceBEq, Int.reduceLE, Int.reduceLT, Int.reduceToNat, Int.reduceMul, Int.reduceAdd, Int.reduceSub, Int.reduceNeg, Int.reduceEq, reduceCtorEq, Nat.reduceMod, Int.reduceBNe, Int.reduceBEq, Int.reduceGT, Int.reduceGE, Int.reduceNe, Int.cast_ofNat_Int, Int.natCast_zero, Int.natCast_one, bne_self_eq_false, gt_iff_lt, ge_iff_le, Int.lt_irrefl, Int.le_refl, Bool.true_or]
  · have c0 : greatD s.d0 = false := by simpa using c0
    rw [c0] at h0 ⊢
    simp -implicitDefEqProofs only [go_sem, reduceIte, Nat.reduceAdd, Nat.reduceSub, Nat.reduceMul, Nat.reduceLT, Nat.reduceLeDiff, Nat.reduceEqDiff, Nat.reduceBEq, Int.reduceLE, Int.reduceLT, Int.reduceToNat, Int.reduceMul, Int.reduceAdd, Int.reduceSub, Int.reduceNeg, Int.reduceEq, reduceCtorEq, Nat.reduceMod, Int.reduceBNe, Int.reduceBEq, Int.reduceGT, Int.reduceGE, Int.reduceNe, Int.cast_ofNat_Int, Int.natCast_zero, Int.natCast_one, bne_self_eq_false, gt_iff_lt, ge_iff_le, Int.lt_irrefl, Int.le_refl]
    refine call_k h0 ?_
    simp -implicitDefEqProofs only [go_sem, reduceIte, Nat.reduceAdd, Nat.reduceSub, Nat.reduceMul, Nat.reduceLT, Nat.reduceLeDiff, Nat.reduceEqDiff, Nat.reduceBEq, Int.reduceLE, Int.reduceLT, Int.reduceToNat, Int.reduceMul, Int.reduceAdd, Int.reduceSub, Int.reduceNeg, Int.reduceEq, reduceCtorEq, Nat.reduceMod, Int.reduceBNe, Int.reduceBEq, Int.reduceGT, Int.reduceGE, Int.reduceNe, Int.cast_ofNat_Int, Int.natCast_zero, Int.natCast_one, bne_self_eq_false, gt_iff_lt, ge_iff_le, Int.lt_irrefl, Int.le_refl]
    refine call_k h1 ?_
    simp -implicitDefEqProofs only [go_sem, reduceIte, Nat.reduceAdd, Nat.reduceSub, Nat.reduceMul, Nat.reduceLT, Nat.reduceLeDiff, Nat.reduceEqDiff, Nat.reduceBEq, Int.reduceLE, Int.reduceLT, Int.reduceToNat, Int.reduceMul, Int.reduceAdd, Int.reduceSub, Int.reduceNeg, Int.reduceEq, reduceCtorEq, Nat.reduceMod, Int.reduceBNe, Int.reduceBEq, Int.reduceGT, Int.reduceGE, Int.reduceNe, Int.cast_ofNat_Int, Int.natCast_zero, Int.natCast_one, bne_self_eq_false, gt_iff_lt, ge_iff_le, Int.lt_irrefl, Int.le_refl, Bool.false_or]
end Go.Proofs.Ytdpnjhooehadmaa.Pm

/-! PmSx -/
set_option linter.all false
set_option maxRecDepth 100000
namespace Go.Proofs.Ytdpnjhooehadmaa.Pm
open Go Go.RowKit

theorem fits_dev {d : Nat} {xs : List T} (hf : Fits Try.prog (d + 3) 24 xs) : ∃ r : Dev, xs = r.cells ∧ r.syn.length ≤ room ∧ r.tail.length ≤ room := by
  obtain ⟨ps, rfl, h⟩ := fits_struct ti24 hf
  obtain ⟨p0, ps, rfl, h0, h⟩ := all2_cons h
  obtain ⟨p1, ps, rfl, h1, h⟩ := all2_cons h
  obtain ⟨p2, ps, rfl, h2, h⟩ := all2_cons h
  obtain ⟨p3, ps, rfl, h3, h⟩ := all2_cons h
  obtain rfl := all2_nil h
  obtain ⟨cs, rfl, ha⟩ := fits_bs ti22 ti5 h0
  obtain ⟨bs, rfl, hb⟩ := fits_bs ti22 ti5 h1
  obtain ⟨n, rfl, l, u⟩ := fits_i64' ti3 h2
  obtain ⟨b, rfl⟩ := fits_bool ti4 h3
  exact ⟨⟨cs, bs, n, b⟩, rfl, ha, hb⟩
theorem fits_slots {d : Nat} {xs : List T} (hf : Fits Try.prog (d + 5) 43 xs) : ∃ r : Slt, xs = r.cells ∧ -9223372036854775808 ≤ r.next ∧ r.next ≤ 9223372036854775807 := by
  obtain ⟨ps, rfl, h⟩ := fits_struct ti43 hf
  obtain ⟨p0, ps, rfl, h0, h⟩ := all2_cons h
  obtain ⟨p1, ps, rfl, h1, h⟩ := all2_cons h
  obtain rfl := all2_nil h
  obtain ⟨n, rfl, l, u⟩ := fits_i64' ti3 h1
  obtain ⟨qs, rfl, hl, hq⟩ := fits_arr ti41 h0
  match qs, hl with
  | [q0, q1], _ =>
    obtain ⟨a, rfl, _, _⟩ := fits_dev (hq q0 (by simp))
    obtain ⟨b, rfl, _, _⟩ := fits_dev (hq q1 (by simp))
    exact ⟨⟨a, b, n⟩, rfl, l, u⟩
theorem arg_slots {d : Nat} {x : T} (h : ArgFits Try.prog (d + 5) 43 x) : ∃ r : Slt, x = .agg r.cells ∧ -9223372036854775808 ≤ r.next ∧ r.next ≤ 9223372036854775807 := by
  obtain ⟨xs, rfl, hf⟩ := arg_struct ti43 h
  obtain ⟨r, rfl, h1⟩ := fits_slots hf
  exact ⟨r, rfl, h1⟩
end Go.Proofs.Ytdpnjhooehadmaa.Pm
