/- slots: the statement SlotsRow. No law of Go's is stated here. -/
import Derived.Test.YtdpnjhooehadmaaPmSk
import Derived.Test.YtdpnjhooehadmaaPmYr
set_option linter.all false
set_option maxRecDepth 100000
set_option maxHeartbeats 2000000
namespace Go.Proofs.Ytdpnjhooehadmaa.Pm
open Go Go.RowKit

theorem ask_eq {s : Slt} (h : s.ok) {b : List (BitVec 8)} (hb : b.length ≤ 1000) (hn : s.next ≤ 1000000000) : s.ask b = if (12 + b.length : Int) ≤ s.dev.cap then 0 else 18 := by
  simp only [Slt.ask, if_pos h, if_pos hb, if_pos hn]
theorem dev_cap {s : Slt} {c : Int} (h0 : s.d0.cap = c) (h1 : s.d1.cap = c) : s.dev.cap = c := by
  unfold Slt.dev
  split
  · exact h0
  · exact h1
theorem save_cap {s : Slt} (h : s.ok) {b : List (BitVec 8)} (ha : s.ask b = 0) {c : Int} (h0 : s.d0.cap = c) (h1 : s.d1.cap = c) :
    ((s.step (bytesL ⟨s.next, b⟩) 3).setN (s.next + 1)).d0.cap = c ∧ ((s.step (bytesL ⟨s.next, b⟩) 3).setN (s.next + 1)).d1.cap = c := by
  obtain ⟨hok, a1, a2, a3⟩ := ask_zero ha
  have hbl : (bytesL ⟨s.next, b⟩).length = 12 + b.length := bytesL_length _
  rw [dev_cap h0 h1] at a3
  show (Slt.step _ _ _).d0.cap = c ∧ (Slt.step _ _ _).d1.cap = c
  unfold Slt.step
  split
  · rw [stepD_3 h.1 (by rw [hbl]; omega)]
    exact ⟨h0, h1⟩
  · rw [stepD_3 h.2.1 (by rw [hbl]; omega)]
    exact ⟨h0, h1⟩
theorem half_zero {x : Slt} (h : x.ok) {b : List (BitVec 8)} (ha : x.ask b = 0) : halfS x b 0 0 = (⟨(x.d0.crash 0).1, (x.d1.crash 0).1, x.next⟩, 0) := by
  have e0 : ∀ d : Dev, stepD d (bytesL ⟨x.next, b⟩) (0 : Int).toNat = d := fun d => rfl
  have c2 : (0 ≤ (0 : Int) ∧ (0 : Int) ≤ 3) := by omega
  unfold halfS
  rw [if_pos ha, if_pos c2, e0, e0, if_pos (calm_crash h.1), if_pos (calm_crash h.2.1)]
  split <;> rfl
theorem open_half_zero {x : Slt} (h : x.neat) : openS ⟨(x.d0.crash 0).1, (x.d1.crash 0).1, x.next⟩ = (x, 0) := by
  have e : openS ⟨(x.d0.crash 0).1, (x.d1.crash 0).1, x.next⟩ = (⟨openD (x.d0.crash 0).1, openD (x.d1.crash 0).1, nextO ⟨openD (x.d0.crash 0).1, openD (x.d1.crash 0).1, 0⟩⟩, 0) := if_pos ⟨(crash_calm h.ok.1).2, (crash_calm h.ok.2.1).2⟩
  rw [e, open_crash_calm h.ok.1, open_crash_calm h.ok.2.1]
  have := h.next
  cases x
  simp at this ⊢
  exact this.symm
def rwS (c : Int) (l : List (List (BitVec 8))) (p : Slt × Nat) : S := ⟨tmL [(0, .t (.i .i64 c) true), (1, .t (.sl (catE l)) false), (6, .ptr 0 0), (8, .t (.i .i64 p.2) true)],
  [.var [.t (.sl (bT p.1.d0.syn)) true, .t (.sl (bT p.1.d0.tail)) true, .t (.i .i64 p.1.d0.cap) true, .t (.b p.1.d0.down) true, .t (.sl (bT p.1.d1.syn)) true, .t (.sl (bT p.1.d1.tail)) true, .t (.i .i64 p.1.d1.cap) true, .t (.b p.1.d1.down) true, .t (.i .i64 p.1.next) true]]⟩
theorem law_SlotsRow (c : Int) (l : List (List (BitVec 8))) (c0 : -9223372036854775808 ≤ c) (c1 : c ≤ 9223372036854775807) (hll : ∀ b ∈ l, b.length ≤ 140737488355328) :
    Spec Try.prog 11 [.i .i64 c, .sl (catE l)] [] (.t (.b true) true) := by
  refine spec_k (hold mixed) b_law05_SlotsRow [(.b true, true)] ?_
  by_cases h8 : (8 : Int) < l.length
  · simp -implicitDefEqProofs only [go_sem, reduceIte, Nat.reduceAdd, Nat.reduceSub, Nat.reduceMul, Nat.reduceLT, Nat.reduceLeDiff, Nat.reduceEqDiff, Nat.reduceBEq, Int.reduceLE, Int.reduceLT, Int.reduceToNat, Int.reduceMul, Int.reduceAdd, Int.reduceSub, Int.reduceNeg, Int.reduceEq, reduceCtorEq, Nat.reduceMod, Int.reduceBNe, Int.reduceBEq, Int.reduceGT, Int.reduceGE, Int.reduceNe, Int.cast_ofNat_Int, Int.natCast_zero, Int.natCast_one, bne_self_eq_false, gt_iff_lt, ge_iff_le, Int.lt_irrefl, Int.le_refl, catE_length, h8]
    first | refine call_k s_alive5 ?_ | refine call_d s_alive5 ?_
    simp -implicitDefEqProofs only [go_sem, reduceIte, Nat.reduceAdd, Nat.reduceSub, Nat.reduceMul, Nat.reduceLT, Nat.reduceLeDiff, Nat.reduceEqDiff, Nat.reduceBEq, Int.reduceLE, Int.reduceLT, Int.reduceToNat, Int.reduceMul, Int.reduceAdd, Int.reduceSub, Int.reduceNeg, Int.reduceEq, reduceCtorEq, Nat.reduceMod, Int.reduceBNe, Int.reduceBEq, Int.reduceGT, Int.reduceGE, Int.reduceNe, Int.cast_ofNat_Int, Int.natCast_zero, Int.natCast_one, bne_self_eq_false, gt_iff_lt, ge_iff_le, Int.lt_irrefl, Int.le_refl]
  simp -implicitDefEqProofs only [go_sem, reduceIte, Nat.reduceAdd, Nat.reduceSub, Nat.reduceMul, Nat.reduceLT, Nat.reduceLeDiff, Nat.reduceEqDiff, Nat.reduceBEq, Int.reduceLE, Int.reduceLT, Int.reduceToNat, Int.reduceMul, Int.reduceAdd, Int.reduceSub, Int.reduceNeg, Int.reduceEq, reduceCtorEq, Nat.reduceMod, Int.reduceBNe, Int.reduceBEq, Int.reduceGT, Int.reduceGE, Int.reduceNe, Int.cast_ofNat_Int, Int.natCast_zero, Int.natCast_one, bne_self_eq_false, gt_iff_lt, ge_iff_le, Int.lt_irrefl, Int.le_refl, catE_length, h8]
  refine loop_l (α := Nat) (fun k => ⟨tmL [(0, .t (.i .i64 c) true), (1, .t (.sl (catE l)) false), (5, .t (.i .i64 k) true)], []⟩) (fun k => l.length - k) (fun k => k ≤ l.length ∧ ∀ b ∈ l.take k, b.length ≤ 100) 0 (by simp -implicitDefEqProofs only [go_sem, reduceIte, Nat.reduceAdd, Nat.reduceSub, Nat.reduceMul, Nat.reduceLT, Nat.reduceLeDiff, Nat.reduceEqDiff, Nat.reduceBEq, Int.reduceLE, Int.reduceLT, Int.reduceToNat, Int.reduceMul, Int.reduceAdd, Int.reduceSub, Int.reduceNeg, Int.reduceEq, reduceCtorEq, Nat.reduceMod]; rfl) ⟨Nat.zero_le _, by simp⟩ ?_
  rintro k ⟨hk, hsm⟩ R hR
  simp -implicitDefEqProofs only [go_sem, reduceIte, Nat.reduceAdd, Nat.reduceSub, Nat.reduceMul, Nat.reduceLT, Nat.reduceLeDiff, Nat.reduceEqDiff, Nat.reduceBEq, Int.reduceLE, Int.reduceLT, Int.reduceToNat, Int.reduceMul, Int.reduceAdd, Int.reduceSub, Int.reduceNeg, Int.reduceEq, reduceCtorEq, Nat.reduceMod, Int.reduceBNe, Int.reduceBEq, Int.reduceGT, Int.reduceGE, Int.reduceNe, Int.cast_ofNat_Int, Int.natCast_zero, Int.natCast_one, bne_self_eq_false, gt_iff_lt, ge_iff_le, Int.lt_irrefl, Int.le_refl, catE_length]
  refine wcond_mk (fun hh => ?_) (fun hh => ?_)
  · have hk' : k < l.length := by have := of_decide_eq_true hh; omega
    have hgl := hll l[k] (List.getElem_mem hk')
    by_cases hlong : (100 : Int) < (l[k]).length
    · simp -implicitDefEqProofs only [go_sem, reduceIte, Nat.reduceAdd, Nat.reduceSub, Nat.reduceMul, Nat.reduceLT, Nat.reduceLeDiff, Nat.reduceEqDiff, Nat.reduceBEq, Int.reduceLE, Int.reduceLT, Int.reduceToNat, Int.reduceMul, Int.reduceAdd, Int.reduceSub, Int.reduceNeg, Int.reduceEq, reduceCtorEq, Nat.reduceMod, Int.reduceBNe, Int.reduceBEq, Int.reduceGT, Int.reduceGE, Int.reduceNe, Int.cast_ofNat_Int, Int.natCast_zero, Int.natCast_one, bne_self_eq_false, gt_iff_lt, ge_iff_le, Int.lt_irrefl, Int.le_refl, catE_get hk', hlong]
      first | refine call_k s_alive5 ?_ | refine call_d s_alive5 ?_
      simp -implicitDefEqProofs only [go_sem, reduceIte, Nat.reduceAdd, Nat.reduceSub, Nat.reduceMul, Nat.reduceLT, Nat.reduceLeDiff, Nat.reduceEqDiff, Nat.reduceBEq, Int.reduceLE, Int.reduceLT, Int.reduceToNat, Int.reduceMul, Int.reduceAdd, Int.reduceSub, Int.reduceNeg, Int.reduceEq, reduceCtorEq, Nat.reduceMod, Int.reduceBNe, Int.reduceBEq, Int.reduceGT, Int.reduceGE, Int.reduceNe, Int.cast_ofNat_Int, Int.natCast_zero, Int.natCast_one, bne_self_eq_false, gt_iff_lt, ge_iff_le, Int.lt_irrefl, Int.le_refl]
    · simp -implicitDefEqProofs only [go_sem, reduceIte, Nat.reduceAdd, Nat.reduceSub, Nat.reduceMul, Nat.reduceLT, Nat.reduceLeDiff, Nat.reduceEqDiff, Nat.reduceBEq, Int.reduceLE, Int.reduceLT, Int.reduceToNat, Int.reduceMul, Int.reduceAdd, Int.reduceSub, Int.reduceNeg, Int.reduceEq, reduceCtorEq, Nat.reduceMod, Int.reduceBNe, Int.reduceBEq, Int.reduceGT, Int.reduceGE, Int.reduceNe, Int.cast_ofNat_Int, Int.natCast_zero, Int.natCast_one, bne_self_eq_false, gt_iff_lt, ge_iff_le, Int.lt_irrefl, Int.le_refl, catE_get hk', hlong]
      refine hR (k + 1) _ ?_ ⟨by omega, ?_⟩ (by omega)
      · simp -implicitDefEqProofs only [go_sem, reduceIte, Nat.reduceAdd, Nat.reduceSub, Nat.reduceMul, Nat.reduceLT, Nat.reduceLeDiff, Nat.reduceEqDiff, Nat.reduceBEq, Int.reduceLE, Int.reduceLT, Int.reduceToNat, Int.reduceMul, Int.reduceAdd, Int.reduceSub, Int.reduceNeg, Int.reduceEq, reduceCtorEq, Nat.reduceMod, wrap_i64_id (show -9223372036854775808 ≤ (k : Int) + 1 by omega) (by omega), Int.natCast_add]
        rfl
      · intro b hb
        rw [List.take_succ_eq_append_getElem hk'] at hb
        rcases List.mem_append.1 hb with hb | hb
        · exact hsm b hb
        · simp at hb; subst hb; omega
  have hkl : k = l.length := by have := of_decide_eq_false hh; omega
  rw [hkl, List.take_length] at hsm
  have hN := s_slots_New c
  by_cases hz : (newD c).2 = 0
  rotate_left
  · have ev : newS c = (zeroS, (newD c).2) := if_neg hz
    have h2 : (newD c).2 = 2 := by
      unfold newD at hz ⊢
      split
      · rfl
      · rename_i h1
        rw [if_neg h1] at hz
        split
        · rfl
        · rename_i h2
          rw [if_neg h2] at hz
          exact absurd rfl hz
    rw [h2] at ev
    rw [ev] at hN
    simp -implicitDefEqProofs only [go_sem, reduceIte, Nat.reduceAdd, Nat.reduceSub, Nat.reduceMul, Nat.reduceLT, Nat.reduceLeDiff, Nat.reduceEqDiff, Nat.reduceBEq, Int.reduceLE, Int.reduceLT, Int.reduceToNat, Int.reduceMul, Int.reduceAdd, Int.reduceSub, Int.reduceNeg, Int.reduceEq, reduceCtorEq, Nat.reduceMod, Int.reduceBNe, Int.reduceBEq, Int.reduceGT, Int.reduceGE, Int.reduceNe, Int.cast_ofNat_Int, Int.natCast_zero, Int.natCast_one, bne_self_eq_false, gt_iff_lt, ge_iff_le, Int.lt_irrefl, Int.le_refl]
    first | refine call_k hN ?_ | refine call_d hN ?_
    simp -implicitDefEqProofs only [go_sem, reduceIte, Nat.reduceAdd, Nat.reduceSub, Nat.reduceMul, Nat.reduceLT, Nat.reduceLeDiff, Nat.reduceEqDiff, Nat.reduceBEq, Int.reduceLE, Int.reduceLT, Int.reduceToNat, Int.reduceMul, Int.reduceAdd, Int.reduceSub, Int.reduceNeg, Int.reduceEq, reduceCtorEq, Nat.reduceMod, Int.reduceBNe, Int.reduceBEq, Int.reduceGT, Int.reduceGE, Int.reduceNe, Int.cast_ofNat_Int, Int.natCast_zero, Int.natCast_one, bne_self_eq_false, gt_iff_lt, ge_iff_le, Int.lt_irrefl, Int.le_refl]
    first | refine call_k s_alive5 ?_ | refine call_d s_alive5 ?_
    simp -implicitDefEqProofs only [go_sem, reduceIte, Nat.reduceAdd, Nat.reduceSub, Nat.reduceMul, Nat.reduceLT, Nat.reduceLeDiff, Nat.reduceEqDiff, Nat.reduceBEq, Int.reduceLE, Int.reduceLT, Int.reduceToNat, Int.reduceMul, Int.reduceAdd, Int.reduceSub, Int.reduceNeg, Int.reduceEq, reduceCtorEq, Nat.reduceMod, Int.reduceBNe, Int.reduceBEq, Int.reduceGT, Int.reduceGE, Int.reduceNe, Int.cast_ofNat_Int, Int.natCast_zero, Int.natCast_one, bne_self_eq_false, gt_iff_lt, ge_iff_le, Int.lt_irrefl, Int.le_refl]
  have ev : newS c = (⟨(newD c).1, (newD c).1, 1⟩, 0) := if_pos hz
  have hcd : newD c = (⟨[], [], c, false⟩, 0) ∧ 0 ≤ c ∧ c ≤ 20000 := by
    unfold newD at hz ⊢
    split
    · rename_i h1; rw [if_pos h1] at hz; cases hz
    · rename_i h1
      rw [if_neg h1] at hz
      split
      · rename_i h2; rw [if_pos h2] at hz; cases hz
      · exact ⟨rfl, by omega, by omega⟩
  obtain ⟨hcd, hc0, hc1⟩ := hcd
  rw [ev, hcd] at hN
  have hcm : (⟨[], [], c, false⟩ : Dev).calm := ⟨check_of hc0 hc1 (by simp; omega) (fun h => by cases h), rfl, rfl⟩
  have hnt : (⟨⟨[], [], c, false⟩, ⟨[], [], c, false⟩, 1⟩ : Slt).neat := ⟨⟨hcm, hcm, by show (1 : Int) ≤ 1; omega, by show (1 : Int) ≤ 1000000001; omega⟩, rfl⟩
  simp -implicitDefEqProofs only [go_sem, reduceIte, Nat.reduceAdd, Nat.reduceSub, Nat.reduceMul, Nat.reduceLT, Nat.reduceLeDiff, Nat.reduceEqDiff, Nat.reduceBEq, Int.reduceLE, Int.reduceLT, Int.reduceToNat, Int.reduceMul, Int.reduceAdd, Int.reduceSub, Int.reduceNeg, Int.reduceEq, reduceCtorEq, Nat.reduceMod, Int.reduceBNe, Int.reduceBEq, Int.reduceGT, Int.reduceGE, Int.reduceNe, Int.cast_ofNat_Int, Int.natCast_zero, Int.natCast_one, bne_self_eq_false, gt_iff_lt, ge_iff_le, Int.lt_irrefl, Int.le_refl]
  first | refine call_k hN ?_ | refine call_d hN ?_
  simp -implicitDefEqProofs only [go_sem, reduceIte, Nat.reduceAdd, Nat.reduceSub, Nat.reduceMul, Nat.reduceLT, Nat.reduceLeDiff, Nat.reduceEqDiff, Nat.reduceBEq, Int.reduceLE, Int.reduceLT, Int.reduceToNat, Int.reduceMul, Int.reduceAdd, Int.reduceSub, Int.reduceNeg, Int.reduceEq, reduceCtorEq, Nat.reduceMod, Int.reduceBNe, Int.reduceBEq, Int.reduceGT, Int.reduceGE, Int.reduceNe, Int.cast_ofNat_Int, Int.natCast_zero, Int.natCast_one, bne_self_eq_false, gt_iff_lt, ge_iff_le, Int.lt_irrefl, Int.le_refl]
  refine loop_l (α := Slt × Nat) (rwS c l) (fun p => l.length - p.2) (fun p => p.1.neat ∧ p.2 ≤ l.length ∧ p.1.next = (p.2 : Int) + 1 ∧ p.1.d0.cap = c ∧ p.1.d1.cap = c) (⟨⟨[], [], c, false⟩, ⟨[], [], c, false⟩, 1⟩, 0) (by simp -implicitDefEqProofs only [go_sem, reduceIte, Nat.reduceAdd, Nat.reduceSub, Nat.reduceMul, Nat.reduceLT, Nat.reduceLeDiff, Nat.reduceEqDiff, Nat.reduceBEq, Int.reduceLE, Int.reduceLT, Int.reduceToNat, Int.reduceMul, Int.reduceAdd, Int.reduceSub, Int.reduceNeg, Int.reduceEq, reduceCtorEq, Nat.reduceMod, rwS]; rfl) ⟨hnt, Nat.zero_le _, rfl, rfl, rfl⟩ ?_
  rintro ⟨s, i⟩ ⟨hs, hi, hsn, hp0, hp1⟩ R2 hR2
  simp only at hs hi hsn hp0 hp1
  simp -implicitDefEqProofs only [go_sem, reduceIte, Nat.reduceAdd, Nat.reduceSub, Nat.reduceMul, Nat.reduceLT, Nat.reduceLeDiff, Nat.reduceEqDiff, Nat.reduceBEq, Int.reduceLE, Int.reduceLT, Int.reduceToNat, Int.reduceMul, Int.reduceAdd, Int.reduceSub, Int.reduceNeg, Int.reduceEq, reduceCtorEq, Nat.reduceMod, Int.reduceBNe, Int.reduceBEq, Int.reduceGT, Int.reduceGE, Int.reduceNe, Int.cast_ofNat_Int, Int.natCast_zero, Int.natCast_one, bne_self_eq_false, gt_iff_lt, ge_iff_le, Int.lt_irrefl, Int.le_refl, rwS, catE_length]
  refine wcond_mk (fun h2 => ?_) (fun h2 => ?_)
  rotate_left
  · simp -implicitDefEqProofs only [go_sem, reduceIte, Nat.reduceAdd, Nat.reduceSub, Nat.reduceMul, Nat.reduceLT, Nat.reduceLeDiff, Nat.reduceEqDiff, Nat.reduceBEq, Int.reduceLE, Int.reduceLT, Int.reduceToNat, Int.reduceMul, Int.reduceAdd, Int.reduceSub, Int.reduceNeg, Int.reduceEq, reduceCtorEq, Nat.reduceMod, Int.reduceBNe, Int.reduceBEq, Int.reduceGT, Int.reduceGE, Int.reduceNe, Int.cast_ofNat_Int, Int.natCast_zero, Int.natCast_one, bne_self_eq_false, gt_iff_lt, ge_iff_le, Int.lt_irrefl, Int.le_refl]
    first | refine call_k s_alive5 ?_ | refine call_d s_alive5 ?_
    simp -implicitDefEqProofs only [go_sem, reduceIte, Nat.reduceAdd, Nat.reduceSub, Nat.reduceMul, Nat.reduceLT, Nat.reduceLeDiff, Nat.reduceEqDiff, Nat.reduceBEq, Int.reduceLE, Int.reduceLT, Int.reduceToNat, Int.reduceMul, Int.reduceAdd, Int.reduceSub, Int.reduceNeg, Int.reduceEq, reduceCtorEq, Nat.reduceMod, Int.reduceBNe, Int.reduceBEq, Int.reduceGT, Int.reduceGE, Int.reduceNe, Int.cast_ofNat_Int, Int.natCast_zero, Int.natCast_one, bne_self_eq_false, gt_iff_lt, ge_iff_le, Int.lt_irrefl, Int.le_refl]
  have hi' : i < l.length := by have := of_decide_eq_true h2; omega
  have hbl := hsm l[i] (List.getElem_mem hi')
  have hget := catE_get hi'
  generalize hbe : l[i] = b at *
  have hv := s_slots_Save s (ok_fine hs.ok) b (by omega)
  have hae := ask_eq hs.ok (b := b) (by omega) (by omega)
  rw [dev_cap hp0 hp1] at hae
  by_cases hfit : (12 + b.length : Int) ≤ c
  rotate_left
  · rw [if_neg hfit] at hae
    have ev : saveS s b = (zeroS, 0, 18) := by unfold saveS; rw [if_neg (by omega), hae]
    have w1 : IntKind.i64.wrap (((b.length : Nat) : Int) + 12) = b.length + 12 := wrap_i64_id (by omega) (by omega)
    have w2 : (c < ((b.length : Nat) : Int) + 12) = True := eq_true (by omega)
    rw [ev] at hv
    simp -implicitDefEqProofs only [go_sem, reduceIte, Nat.reduceAdd, Nat.reduceSub, Nat.reduceMul, Nat.reduceLT, Nat.reduceLeDiff, Nat.reduceEqDiff, Nat.reduceBEq, Int.reduceLE, Int.reduceLT, Int.reduceToNat, Int.reduceMul, Int.reduceAdd, Int.reduceSub, Int.reduceNeg, Int.reduceEq, reduceCtorEq, Nat.reduceMod, Int.reduceBNe, Int.reduceBEq, Int.reduceGT, Int.reduceGE, Int.reduceNe, Int.cast_ofNat_Int, Int.natCast_zero, Int.natCast_one, bne_self_eq_false, gt_iff_lt, ge_iff_le, Int.lt_irrefl, Int.le_refl, hget]
    first | refine call_k hv ?_ | refine call_d hv ?_
    simp -implicitDefEqProofs only [go_sem, reduceIte, Nat.reduceAdd, Nat.reduceSub, Nat.reduceMul, Nat.reduceLT, Nat.reduceLeDiff, Nat.reduceEqDiff, Nat.reduceBEq, Int.reduceLE, Int.reduceLT, Int.reduceToNat, Int.reduceMul, Int.reduceAdd, Int.reduceSub, Int.reduceNeg, Int.reduceEq, reduceCtorEq, Nat.reduceMod, Int.reduceBNe, Int.reduceBEq, Int.reduceGT, Int.reduceGE, Int.reduceNe, Int.cast_ofNat_Int, Int.natCast_zero, Int.natCast_one, bne_self_eq_false, gt_iff_lt, ge_iff_le, Int.lt_irrefl, Int.le_refl, hget, w1, w2]
    first | refine call_k s_alive5 ?_ | refine call_d s_alive5 ?_
    simp -implicitDefEqProofs only [go_sem, reduceIte, Nat.reduceAdd, Nat.reduceSub, Nat.reduceMul, Nat.reduceLT, Nat.reduceLeDiff, Nat.reduceEqDiff, Nat.reduceBEq, Int.reduceLE, Int.reduceLT, Int.reduceToNat, Int.reduceMul, Int.reduceAdd, Int.reduceSub, Int.reduceNeg, Int.reduceEq, reduceCtorEq, Nat.reduceMod, Int.reduceBNe, Int.reduceBEq, Int.reduceGT, Int.reduceGE, Int.reduceNe, Int.cast_ofNat_Int, Int.natCast_zero, Int.natCast_one, bne_self_eq_false, gt_iff_lt, ge_iff_le, Int.lt_irrefl, Int.le_refl]
  rw [if_pos hfit] at hae
  have ev : saveS s b = ((s.step (bytesL ⟨s.next, b⟩) 3).setN (s.next + 1), s.next, 0) := if_pos hae
  obtain ⟨hx, hxo⟩ := save_neat hs hae
  obtain ⟨g0, g1⟩ := save_cap hs.ok hae hp0 hp1
  have hxn : ((s.step (bytesL ⟨s.next, b⟩) 3).setN (s.next + 1)).next = s.next + 1 := rfl
  rw [ev] at hv
  generalize (s.step (bytesL ⟨s.next, b⟩) 3).setN (s.next + 1) = x at *
  have hL := s_slots_Load x (ok_fine hx.ok)
  rw [load_of hx.ok, hxo] at hL
  have hax := ask_eq hx.ok (b := b) (by omega) (by omega)
  rw [dev_cap g0 g1, if_pos hfit] at hax
  have hH := s_slots_Half x (ok_fine hx.ok) b (by omega) 0 0 (by omega) (by omega) (by omega) (by omega)
  have hhs := halfS_small' x b 0 0
  rw [half_zero hx.ok hax] at hH hhs
  have hO := s_slots_Open ⟨(x.d0.crash 0).1, (x.d1.crash 0).1, x.next⟩ ⟨hhs.1, hhs.2, by show _ ≤ x.next; omega, by show x.next ≤ _; omega⟩
  rw [open_half_zero hx] at hO
  have eb : (b == b) = true := by simp
  have hB := s_ref01_SameBytes b b (by omega) (by omega)
  rw [eb] at hB
  have hxf := ok_fine hx.ok
  have hSm := s_ref05_Same x x hxf.1 hxf.2.1 hxf.1 hxf.2.1
  rw [sameS_self] at hSm
  have v1 : IntKind.i64.wrap ((i : Int) + 1) = (i : Int) + 1 := wrap_i64_id (by omega) (by omega)
  have v2 : IntKind.i64.wrap ((i : Int) + 2) = (i : Int) + 1 + 1 := by rw [wrap_i64_id (by omega) (by omega)]; omega
  have v3 : (s.next != (i : Int) + 1) = false := by simp [hsn]
  have v4 : (x.next != (i : Int) + 1 + 1) = false := by simp [hxn, hsn]
  have v5 : (s.next != s.next) = false := by simp
  simp -implicitDefEqProofs only [go_sem, reduceIte, Nat.reduceAdd, Nat.reduceSub, Nat.reduceMul, Nat.reduceLT, Nat.reduceLeDiff, Nat.reduceEqDiff, Nat.reduceBEq, Int.reduceLE, Int.reduceLT, Int.reduceToNat, Int.reduceMul, Int.reduceAdd, Int.reduceSub, Int.reduceNeg, Int.reduceEq, reduceCtorEq, Nat.reduceMod, Int.reduceBNe, Int.reduceBEq, Int.reduceGT, Int.reduceGE, Int.reduceNe, Int.cast_ofNat_Int, Int.natCast_zero, Int.natCast_one, bne_self_eq_false, gt_iff_lt, ge_iff_le, Int.lt_irrefl, Int.le_refl, hget]
  first | refine call_k hv ?_ | refine call_d hv ?_
  simp -implicitDefEqProofs only [go_sem, reduceIte, Nat.reduceAdd, Nat.reduceSub, Nat.reduceMul, Nat.reduceLT, Nat.reduceLeDiff, Nat.reduceEqDiff, Nat.reduceBEq, Int.reduceLE, Int.reduceLT, Int.reduceToNat, Int.reduceMul, Int.reduceAdd, Int.reduceSub, Int.reduceNeg, Int.reduceEq, reduceCtorEq, Nat.reduceMod, Int.reduceBNe, Int.reduceBEq, Int.reduceGT, Int.reduceGE, Int.reduceNe, Int.cast_ofNat_Int, Int.natCast_zero, Int.natCast_one, bne_self_eq_false, gt_iff_lt, ge_iff_le, Int.lt_irrefl, Int.le_refl, hget]
  first | refine call_k hL ?_ | refine call_d hL ?_
  simp -implicitDefEqProofs only [go_sem, reduceIte, Nat.reduceAdd, Nat.reduceSub, Nat.reduceMul, Nat.reduceLT, Nat.reduceLeDiff, Nat.reduceEqDiff, Nat.reduceBEq, Int.reduceLE, Int.reduceLT, Int.reduceToNat, Int.reduceMul, Int.reduceAdd, Int.reduceSub, Int.reduceNeg, Int.reduceEq, reduceCtorEq, Nat.reduceMod, Int.reduceBNe, Int.reduceBEq, Int.reduceGT, Int.reduceGE, Int.reduceNe, Int.cast_ofNat_Int, Int.natCast_zero, Int.natCast_one, bne_self_eq_false, gt_iff_lt, ge_iff_le, Int.lt_irrefl, Int.le_refl, hget, v1, v2, v3, v4, v5]
  first | refine call_k hB ?_ | refine call_d hB ?_
  simp -implicitDefEqProofs only [go_sem, reduceIte, Nat.reduceAdd, Nat.reduceSub, Nat.reduceMul, Nat.reduceLT, Nat.reduceLeDiff, Nat.reduceEqDiff, Nat.reduceBEq, Int.reduceLE, Int.reduceLT, Int.reduceToNat, Int.reduceMul, Int.reduceAdd, Int.reduceSub, Int.reduceNeg, Int.reduceEq, reduceCtorEq, Nat.reduceMod, Int.reduceBNe, Int.reduceBEq, Int.reduceGT, Int.reduceGE, Int.reduceNe, Int.cast_ofNat_Int, Int.natCast_zero, Int.natCast_one, bne_self_eq_false, gt_iff_lt, ge_iff_le, Int.lt_irrefl, Int.le_refl, hget]
  first | refine call_k hH ?_ | refine call_d hH ?_
  simp -implicitDefEqProofs only [go_sem, reduceIte, Nat.reduceAdd, Nat.reduceSub, Nat.reduceMul, Nat.reduceLT, Nat.reduceLeDiff, Nat.reduceEqDiff, Nat.reduceBEq, Int.reduceLE, Int.reduceLT, Int.reduceToNat, Int.reduceMul, Int.reduceAdd, Int.reduceSub, Int.reduceNeg, Int.reduceEq, reduceCtorEq, Nat.reduceMod, Int.reduceBNe, Int.reduceBEq, Int.reduceGT, Int.reduceGE, Int.reduceNe, Int.cast_ofNat_Int, Int.natCast_zero, Int.natCast_one, bne_self_eq_false, gt_iff_lt, ge_iff_le, Int.lt_irrefl, Int.le_refl, hget]
  first | refine call_k hO ?_ | refine call_d hO ?_
  simp -implicitDefEqProofs only [go_sem, reduceIte, Nat.reduceAdd, Nat.reduceSub, Nat.reduceMul, Nat.reduceLT, Nat.reduceLeDiff, Nat.reduceEqDiff, Nat.reduceBEq, Int.reduceLE, Int.reduceLT, Int.reduceToNat, Int.reduceMul, Int.reduceAdd, Int.reduceSub, Int.reduceNeg, Int.reduceEq, reduceCtorEq, Nat.reduceMod, Int.reduceBNe, Int.reduceBEq, Int.reduceGT, Int.reduceGE, Int.reduceNe, Int.cast_ofNat_Int, Int.natCast_zero, Int.natCast_one, bne_self_eq_false, gt_iff_lt, ge_iff_le, Int.lt_irrefl, Int.le_refl, hget]
  first | refine call_k hSm ?_ | refine call_d hSm ?_
  simp -implicitDefEqProofs only [go_sem, reduceIte, Nat.reduceAdd, Nat.reduceSub, Nat.reduceMul, Nat.reduceLT, Nat.reduceLeDiff, Nat.reduceEqDiff, Nat.reduceBEq, Int.reduceLE, Int.reduceLT, Int.reduceToNat, Int.reduceMul, Int.reduceAdd, Int.reduceSub, Int.reduceNeg, Int.reduceEq, reduceCtorEq, Nat.reduceMod, Int.reduceBNe, Int.reduceBEq, Int.reduceGT, Int.reduceGE, Int.reduceNe, Int.cast_ofNat_Int, Int.natCast_zero, Int.natCast_one, bne_self_eq_false, gt_iff_lt, ge_iff_le, Int.lt_irrefl, Int.le_refl, hget]
  refine hR2 (x, i + 1) _ ?_ ⟨hx, by show i + 1 ≤ _; omega, by show x.next = ((i + 1 : Nat) : Int) + 1; omega, g0, g1⟩ (by show _ - (i + 1) < _ - i; omega)
  simp -implicitDefEqProofs only [go_sem, reduceIte, Nat.reduceAdd, Nat.reduceSub, Nat.reduceMul, Nat.reduceLT, Nat.reduceLeDiff, Nat.reduceEqDiff, Nat.reduceBEq, Int.reduceLE, Int.reduceLT, Int.reduceToNat, Int.reduceMul, Int.reduceAdd, Int.reduceSub, Int.reduceNeg, Int.reduceEq, reduceCtorEq, Nat.reduceMod, v1, Int.natCast_add, rwS]
  rfl
end Go.Proofs.Ytdpnjhooehadmaa.Pm
