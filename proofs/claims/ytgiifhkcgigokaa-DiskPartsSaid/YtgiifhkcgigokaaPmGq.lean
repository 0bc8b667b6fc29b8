/- disk: scripts in parts. No law of Go's is stated here. -/
import Derived.Test.YtgiifhkcgigokaaPmGo
import Derived.Test.YtgiifhkcgigokaaPmGm
set_option linter.all false
set_option maxRecDepth 100000
set_option maxHeartbeats 2000000
namespace Go.Proofs.Ytgiifhkcgigokaa.Pm
open Go Go.RowKit

theorem orE_zero {d : Dev} {p : Dev × Int} (h : (orE d p).2 = 0) : d.check = 0 ∧ d.upE = 0 ∧ orE d p = p := by
  unfold orE at h ⊢
  split at h
  · rename_i hu
    rcases d.up3 with ⟨hc, hn, hu'⟩ | ⟨hc, hn, hu'⟩ | ⟨hc, hn, hu'⟩
    · omega
    · omega
    · exact ⟨hc, hu, if_pos hu⟩
  · rename_i hu
    exact absurd h hu
theorem app_check {d : Dev} {b : List (BitVec 8)} (h : (d.app b).2 = 0) : (d.app b).1.check = 0 := by
  obtain ⟨hc, hu, e⟩ := orE_zero h
  obtain ⟨k1, k2, k3⟩ := d.ok_of hc
  unfold Dev.app at h ⊢
  rw [e] at h ⊢
  split at h
  · rename_i hl
    rw [if_pos hl]
    exact check_of k1 k2 (by show (d.syn.length : Int) + ((d.tail ++ b).length : Nat) ≤ d.cap; rw [List.length_append]; omega) (fun h => by cases h)
  · cases h
theorem sync_check {d : Dev} (h : (d.sync).2 = 0) : (d.sync).1.check = 0 := by
  obtain ⟨hc, hu, e⟩ := orE_zero h
  obtain ⟨k1, k2, k3⟩ := d.ok_of hc
  unfold Dev.sync
  rw [e]
  exact check_of k1 k2 (by show ((d.syn ++ d.tail).length : Int) + (([] : List (BitVec 8)).length : Nat) ≤ d.cap; rw [List.length_append]; simp; omega) (fun _ => rfl)
theorem trunc_check {d : Dev} {n : Int} (h : (d.trunc n).2 = 0) : (d.trunc n).1.check = 0 := by
  obtain ⟨hc, hu, e⟩ := orE_zero h
  obtain ⟨k1, k2, k3⟩ := d.ok_of hc
  unfold Dev.trunc at h ⊢
  rw [e] at h ⊢
  split at h
  · rename_i hl
    rw [if_pos hl]
    exact check_of k1 k2 (by show ((d.syn.take _).length : Int) + ((d.tail.take _).length : Nat) ≤ d.cap; rw [List.length_take, List.length_take]; omega) (fun h => by cases h)
  · cases h
theorem drop_check {d : Dev} {n : Int} (h : (d.drop n).2 = 0) : (d.drop n).1.check = 0 := by
  obtain ⟨hc, hu, e⟩ := orE_zero h
  obtain ⟨k1, k2, k3⟩ := d.ok_of hc
  unfold Dev.drop at h ⊢
  rw [e] at h ⊢
  split at h
  · rename_i hl
    rw [if_pos hl]
    exact check_of k1 k2 (by show ((d.syn.drop _).length : Int) + d.tail.length ≤ d.cap; rw [List.length_drop]; omega) (fun h => by cases h)
  · cases h
theorem crash_check {d : Dev} {n : Int} (h : (d.crash n).2 = 0) : (d.crash n).1.check = 0 := by
  obtain ⟨hc, hu, e⟩ := orE_zero h
  obtain ⟨k1, k2, k3⟩ := d.ok_of hc
  unfold Dev.crash at h ⊢
  rw [e] at h ⊢
  split at h
  · rename_i hl
    rw [if_pos hl]
    exact check_of k1 k2 (by show ((d.syn ++ d.tail.take _).length : Int) + (([] : List (BitVec 8)).length : Nat) ≤ d.cap; rw [List.length_append, List.length_take]; simp; omega) (fun _ => rfl)
  · cases h
theorem start_check {d : Dev} (h : (d.start).2 = 0) : (d.start).1.check = 0 := by
  unfold Dev.start at h ⊢
  split at h
  · rename_i hc
    obtain ⟨k1, k2, k3⟩ := d.ok_of hc
    rw [if_pos hc]
    split at h
    · rename_i hd
      rw [if_pos hd]
      exact check_of k1 k2 (by show (d.syn.length : Int) + (([] : List (BitVec 8)).length : Nat) ≤ d.cap; simp; omega) (fun h => by cases h)
    · cases h
  · rename_i hc
    exact absurd h hc
section
attribute [local irreducible] Dev.app Dev.trunc Dev.drop Dev.crash Dev.sync Dev.start
theorem step_check {d : Dev} {o : DOp} : (d.step o).2 = 0 → (d.step o).1.check = 0 := by
  unfold Dev.step
  repeat' split
  all_goals intro h
  all_goals first | exact app_check h | exact trunc_check h | exact drop_check h | exact crash_check h | exact sync_check h | exact start_check h | (cases h; done)
end
theorem runL_le (l : List DOp) : ∀ (d : Dev) (k : Nat), (runL d l k).2.1 ≤ k + l.length := by
  induction l with
  | nil => intro d k; exact Nat.le_refl _
  | cons o l ih =>
    intro d k
    rw [runL]
    split
    · have := ih (d.step o).1 (k + 1)
      rw [List.length_cons]
      omega
    · show k ≤ _
      omega
theorem runL_check (l : List DOp) : ∀ (d : Dev) (k : Nat), d.check = 0 → (runL d l k).1.check = 0 := by
  induction l with
  | nil => intro d k h; exact h
  | cons o l ih =>
    intro d k h
    rw [runL]
    split
    · rename_i hz
      exact ih _ _ (step_check hz)
    · exact h
theorem runL_app (l2 : List DOp) (l1 : List DOp) : ∀ (d : Dev) (k : Nat), ((runL d l1 k).2.2 = 0 → runL d (l1 ++ l2) k = runL (runL d l1 k).1 l2 (k + l1.length) ∧ (runL d l1 k).2.1 = k + l1.length) ∧ ((runL d l1 k).2.2 ≠ 0 → runL d (l1 ++ l2) k = runL d l1 k) := by
  induction l1 with
  | nil => intro d k; exact ⟨fun _ => ⟨rfl, rfl⟩, fun h => absurd rfl h⟩
  | cons o l ih =>
    intro d k
    rw [runL, List.cons_append, runL]
    split
    · obtain ⟨g1, g2⟩ := ih (d.step o).1 (k + 1)
      rw [List.length_cons, show k + (l.length + 1) = k + 1 + l.length by omega]
      exact ⟨g1, g2⟩
    · rename_i hz
      exact ⟨fun h => absurd h hz, fun _ => rfl⟩
theorem runL_shift (l : List DOp) : ∀ (d : Dev) (k j : Nat), runL d l (k + j) = ((runL d l k).1, (runL d l k).2.1 + j, (runL d l k).2.2) := by
  induction l with
  | nil => intro d k j; rfl
  | cons o l ih =>
    intro d k j
    rw [runL, runL]
    split
    · rw [show k + j + 1 = k + 1 + j by omega]
      exact ih _ _ _
    · rfl
theorem opsT_take (n : Nat) (l : List DOp) : List.take n (opsT l) = opsT (l.take n) := by simp [opsT, List.map_take]
theorem opsT_drop (n : Nat) (l : List DOp) : List.drop n (opsT l) = opsT (l.drop n) := by simp [opsT, List.map_drop]
theorem run_ok {d : Dev} {l : List DOp} (hc : d.check = 0) (hl : l.length ≤ 200) : d.run l = runL d l 0 := by
  unfold Dev.run
  rw [if_pos hc, if_pos hl]
theorem okEs_ops (l : List DOp) : okEs 3 (opsT l) := by
  intro e he
  simp only [opsT, List.mem_map] at he
  obtain ⟨o, _, rfl⟩ := he
  refine ⟨rfl, fun x hx => ?_⟩
  simp only [DOp.cells, List.mem_cons, List.not_mem_nil, or_false] at hx
  rcases hx with rfl | rfl | rfl <;> trivial
theorem law_DiskParts (d : Dev) (l : List DOp) (n : Int) (hn : l.length ≤ 140737488355328) (hr : ∀ o ∈ l, -9223372036854775808 ≤ o.n ∧ o.n ≤ 9223372036854775807) (h0 : -9223372036854775808 ≤ n) (h1' : n ≤ 9223372036854775807) : Spec Try.prog 8 [.agg d.cells, .sl (opsT l), .i .i64 n] [] (.t (.b true) true) := by
  refine spec_k (hold mixed) b_law01_DiskParts [(.b true, true)] ?_
  simp -implicitDefEqProofs only [go_sem, reduceIte, Nat.reduceAdd, Nat.reduceSub, Nat.reduceMul, Nat.reduceLT, Nat.reduceLeDiff, Nat.reduceEqDiff, Nat.reduceBEq, Int.reduceLE, Int.reduceLT, Int.reduceToNat, Int.reduceMul, Int.reduceAdd, Int.reduceSub, Int.reduceNeg, Int.reduceEq, reduceCtorEq, Nat.reduceMod]
  refine call_k (s_ref01_Great' d) ?_
  by_cases hg : greatB d = true
  · simp -implicitDefEqProofs only [go_sem, reduceIte, Nat.reduceAdd, Nat.reduceSub, Nat.reduceMul, Nat.reduceLT, Nat.reduceLeDiff, Nat.reduceEqDiff, Nat.reduceBEq, Int.reduceLE, Int.reduceLT, Int.reduceToNat, Int.reduceMul, Int.reduceAdd, Int.reduceSub, Int.reduceNeg, Int.reduceEq, reduceCtorEq, Nat.reduceMod, hg]
    refine call_k s_law01_alive ?_
    simp -implicitDefEqProofs only [go_sem, reduceIte, Nat.reduceAdd, Nat.reduceSub, Nat.reduceMul, Nat.reduceLT, Nat.reduceLeDiff, Nat.reduceEqDiff, Nat.reduceBEq, Int.reduceLE, Int.reduceLT, Int.reduceToNat, Int.reduceMul, Int.reduceAdd, Int.reduceSub, Int.reduceNeg, Int.reduceEq, reduceCtorEq, Nat.reduceMod]
  replace hg : greatB d = false := by simpa using hg
  have hd := small_of_great hg
  simp -implicitDefEqProofs only [go_sem, reduceIte, Nat.reduceAdd, Nat.reduceSub, Nat.reduceMul, Nat.reduceLT, Nat.reduceLeDiff, Nat.reduceEqDiff, Nat.reduceBEq, Int.reduceLE, Int.reduceLT, Int.reduceToNat, Int.reduceMul, Int.reduceAdd, Int.reduceSub, Int.reduceNeg, Int.reduceEq, reduceCtorEq, Nat.reduceMod, hg]
  refine call_k (s_ref01_Check d hd) ?_
  have hc : d.check = 8 ∨ d.check = 0 := by unfold Dev.check; split <;> simp
  rcases hc with hc | hc
  · simp -implicitDefEqProofs only [go_sem, reduceIte, Nat.reduceAdd, Nat.reduceSub, Nat.reduceMul, Nat.reduceLT, Nat.reduceLeDiff, Nat.reduceEqDiff, Nat.reduceBEq, Int.reduceLE, Int.reduceLT, Int.reduceToNat, Int.reduceMul, Int.reduceAdd, Int.reduceSub, Int.reduceNeg, Int.reduceEq, reduceCtorEq, Nat.reduceMod, Int.reduceBNe, Int.reduceBEq, Int.reduceGT, Int.reduceGE, Int.reduceNe, Int.cast_ofNat_Int, Int.natCast_zero, Int.natCast_one, bne_self_eq_false, gt_iff_lt, ge_iff_le, Int.lt_irrefl, Int.le_refl, hc]
    refine call_k s_law01_alive ?_
    simp -implicitDefEqProofs only [go_sem, reduceIte, Nat.reduceAdd, Nat.reduceSub, Nat.reduceMul, Nat.reduceLT, Nat.reduceLeDiff, Nat.reduceEqDiff, Nat.reduceBEq, Int.reduceLE, Int.reduceLT, Int.reduceToNat, Int.reduceMul, Int.reduceAdd, Int.reduceSub, Int.reduceNeg, Int.reduceEq, reduceCtorEq, Nat.reduceMod]
  have e1 : ((l.length : Int) > 60) = (60 < l.length) := propext (by omega)
  by_cases hl : 60 < l.length
  · simp -implicitDefEqProofs only [go_sem, reduceIte, Nat.reduceAdd, Nat.reduceSub, Nat.reduceMul, Nat.reduceLT, Nat.reduceLeDiff, Nat.reduceEqDiff, Nat.reduceBEq, Int.reduceLE, Int.reduceLT, Int.reduceToNat, Int.reduceMul, Int.reduceAdd, Int.reduceSub, Int.reduceNeg, Int.reduceEq, reduceCtorEq, Nat.reduceMod, Int.reduceBNe, Int.reduceBEq, Int.reduceGT, Int.reduceGE, Int.reduceNe, Int.cast_ofNat_Int, Int.natCast_zero, Int.natCast_one, bne_self_eq_false, gt_iff_lt, ge_iff_le, Int.lt_irrefl, Int.le_refl, hc, opsT_length, e1, hl]
    refine call_k s_law01_alive ?_
    simp -implicitDefEqProofs only [go_sem, reduceIte, Nat.reduceAdd, Nat.reduceSub, Nat.reduceMul, Nat.reduceLT, Nat.reduceLeDiff, Nat.reduceEqDiff, Nat.reduceBEq, Int.reduceLE, Int.reduceLT, Int.reduceToNat, Int.reduceMul, Int.reduceAdd, Int.reduceSub, Int.reduceNeg, Int.reduceEq, reduceCtorEq, Nat.reduceMod]
  simp -implicitDefEqProofs only [go_sem, reduceIte, Nat.reduceAdd, Nat.reduceSub, Nat.reduceMul, Nat.reduceLT, Nat.reduceLeDiff, Nat.reduceEqDiff, Nat.reduceBEq, Int.reduceLE, Int.reduceLT, Int.reduceToNat, Int.reduceMul, Int.reduceAdd, Int.reduceSub, Int.reduceNeg, Int.reduceEq, reduceCtorEq, Nat.reduceMod, Int.reduceBNe, Int.reduceBEq, Int.reduceGT, Int.reduceGE, Int.reduceNe, Int.cast_ofNat_Int, Int.natCast_zero, Int.natCast_one, bne_self_eq_false, gt_iff_lt, ge_iff_le, Int.lt_irrefl, Int.le_refl, hc, opsT_length, e1, hl]
  refine call_k (s_ref01_Long l hn) ?_
  by_cases hlo : longB l = true
  · simp -implicitDefEqProofs only [go_sem, reduceIte, Nat.reduceAdd, Nat.reduceSub, Nat.reduceMul, Nat.reduceLT, Nat.reduceLeDiff, Nat.reduceEqDiff, Nat.reduceBEq, Int.reduceLE, Int.reduceLT, Int.reduceToNat, Int.reduceMul, Int.reduceAdd, Int.reduceSub, Int.reduceNeg, Int.reduceEq, reduceCtorEq, Nat.reduceMod, hlo]
    refine call_k s_law01_alive ?_
    simp -implicitDefEqProofs only [go_sem, reduceIte, Nat.reduceAdd, Nat.reduceSub, Nat.reduceMul, Nat.reduceLT, Nat.reduceLeDiff, Nat.reduceEqDiff, Nat.reduceBEq, Int.reduceLE, Int.reduceLT, Int.reduceToNat, Int.reduceMul, Int.reduceAdd, Int.reduceSub, Int.reduceNeg, Int.reduceEq, reduceCtorEq, Nat.reduceMod]
  replace hlo : longB l = false := by simpa using hlo
  have hf := fine_of hlo hr
  by_cases c0 : n < 0
  · simp -implicitDefEqProofs only [go_sem, reduceIte, Nat.reduceAdd, Nat.reduceSub, Nat.reduceMul, Nat.reduceLT, Nat.reduceLeDiff, Nat.reduceEqDiff, Nat.reduceBEq, Int.reduceLE, Int.reduceLT, Int.reduceToNat, Int.reduceMul, Int.reduceAdd, Int.reduceSub, Int.reduceNeg, Int.reduceEq, reduceCtorEq, Nat.reduceMod, Int.reduceBNe, Int.reduceBEq, Int.reduceGT, Int.reduceGE, Int.reduceNe, Int.cast_ofNat_Int, Int.natCast_zero, Int.natCast_one, bne_self_eq_false, gt_iff_lt, ge_iff_le, Int.lt_irrefl, Int.le_refl, hlo, c0]
    refine call_k s_law01_alive ?_
    simp -implicitDefEqProofs only [go_sem, reduceIte, Nat.reduceAdd, Nat.reduceSub, Nat.reduceMul, Nat.reduceLT, Nat.reduceLeDiff, Nat.reduceEqDiff, Nat.reduceBEq, Int.reduceLE, Int.reduceLT, Int.reduceToNat, Int.reduceMul, Int.reduceAdd, Int.reduceSub, Int.reduceNeg, Int.reduceEq, reduceCtorEq, Nat.reduceMod]
  by_cases c1 : n > l.length
  · simp -implicitDefEqProofs only [go_sem, reduceIte, Nat.reduceAdd, Nat.reduceSub, Nat.reduceMul, Nat.reduceLT, Nat.reduceLeDiff, Nat.reduceEqDiff, Nat.reduceBEq, Int.reduceLE, Int.reduceLT, Int.reduceToNat, Int.reduceMul, Int.reduceAdd, Int.reduceSub, Int.reduceNeg, Int.reduceEq, reduceCtorEq, Nat.reduceMod, Int.reduceBNe, Int.reduceBEq, Int.reduceGT, Int.reduceGE, Int.reduceNe, Int.cast_ofNat_Int, Int.natCast_zero, Int.natCast_one, bne_self_eq_false, gt_iff_lt, ge_iff_le, Int.lt_irrefl, Int.le_refl, hlo, c0, c1, opsT_length]
    refine call_k s_law01_alive ?_
    simp -implicitDefEqProofs only [go_sem, reduceIte, Nat.reduceAdd, Nat.reduceSub, Nat.reduceMul, Nat.reduceLT, Nat.reduceLeDiff, Nat.reduceEqDiff, Nat.reduceBEq, Int.reduceLE, Int.reduceLT, Int.reduceToNat, Int.reduceMul, Int.reduceAdd, Int.reduceSub, Int.reduceNeg, Int.reduceEq, reduceCtorEq, Nat.reduceMod]
  obtain ⟨m, rfl⟩ : ∃ m : Nat, n = m := ⟨n.toNat, by omega⟩
  have hm : m ≤ l.length := by omega
  have hR1 := s_disk_Run d l hd hf hn
  have hR2 := s_disk_Run d (l.take m) hd (fun o ho => hf o (List.mem_of_mem_take ho)) (by rw [List.length_take]; omega)
  rw [run_ok hc (by omega)] at hR1
  rw [run_ok hc (by rw [List.length_take]; omega)] at hR2
  have e4 : ((m : Int) - 0).toNat = m := by omega
  have hsm1 : (runL d l 0).1.small := runL_small _ _ _ hd
  have hsm2 : (runL d (l.take m) 0).1.small := runL_small _ _ _ hd
  have hck1 : (runL d l 0).1.check = 0 := runL_check _ _ _ hc
  have hck2 : (runL d (l.take m) 0).1.check = 0 := runL_check _ _ _ hc
  obtain ⟨g1, g2⟩ := runL_app (l.drop m) (l.take m) d 0
  rw [List.take_append_drop] at g1 g2
  simp -implicitDefEqProofs only [go_sem, reduceIte, Nat.reduceAdd, Nat.reduceSub, Nat.reduceMul, Nat.reduceLT, Nat.reduceLeDiff, Nat.reduceEqDiff, Nat.reduceBEq, Int.reduceLE, Int.reduceLT, Int.reduceToNat, Int.reduceMul, Int.reduceAdd, Int.reduceSub, Int.reduceNeg, Int.reduceEq, reduceCtorEq, Nat.reduceMod, Int.reduceBNe, Int.reduceBEq, Int.reduceGT, Int.reduceGE, Int.reduceNe, Int.cast_ofNat_Int, Int.natCast_zero, Int.natCast_one, bne_self_eq_false, gt_iff_lt, ge_iff_le, Int.lt_irrefl, Int.le_refl, hlo, c0, c1, opsT_length]
  refine call_k hR1 ?_
  simp -implicitDefEqProofs only [go_sem, reduceIte, Nat.reduceAdd, Nat.reduceSub, Nat.reduceMul, Nat.reduceLT, Nat.reduceLeDiff, Nat.reduceEqDiff, Nat.reduceBEq, Int.reduceLE, Int.reduceLT, Int.reduceToNat, Int.reduceMul, Int.reduceAdd, Int.reduceSub, Int.reduceNeg, Int.reduceEq, reduceCtorEq, Nat.reduceMod, Int.reduceBNe, Int.reduceBEq, Int.reduceGT, Int.reduceGE, Int.reduceNe, Int.cast_ofNat_Int, Int.natCast_zero, Int.natCast_one, bne_self_eq_false, gt_iff_lt, ge_iff_le, Int.lt_irrefl, Int.le_refl, opsT_length, opsT_take, e4]
  refine ⟨⟨by omega, .inl trivial⟩, call_d hR2 ?_⟩
  by_cases hz : (runL d (l.take m) 0).2.2 = 0
  · obtain ⟨ga, gb⟩ := g1 hz
    have hml : (l.take m).length = m := by rw [List.length_take]; omega
    rw [hml, Nat.zero_add] at ga gb
    obtain ⟨b, hb⟩ : ∃ b, runL d (l.take m) 0 = (b, m, 0) := ⟨_, Prod.ext rfl (Prod.ext gb hz)⟩
    rw [hb] at hsm2 hck2 ga ⊢
    replace hsm2 : b.small := hsm2
    replace hck2 : b.check = 0 := hck2
    replace ga : runL d l 0 = runL b (l.drop m) m := ga
    have hR3 := s_disk_Run b (l.drop m) hsm2 (fun o ho => hf o (List.mem_of_mem_drop ho)) (by rw [List.length_drop]; omega)
    rw [run_ok hck2 (by rw [List.length_drop]; omega)] at hR3
    have hle := runL_le (l.drop m) b 0
    rw [List.length_drop] at hle
    have hsh := runL_shift (l.drop m) b 0 m
    rw [Nat.zero_add] at hsh
    rw [ga, hsh] at hsm1 hck1 ⊢
    generalize hrr : runL b (l.drop m) 0 = r at *
    replace hsm1 : r.1.small := hsm1
    replace hck1 : r.1.check = 0 := hck1
    have e5 : List.take ((l.length : Int) - (m : Int)).toNat (List.drop m (opsT l)) = opsT (l.drop m) := by
      rw [opsT_drop, List.take_of_length_le]
      rw [opsT_length, List.length_drop]
      omega
    have b1 : (((m : Nat) : Int) == (m : Nat)) = true := by simp
    have b2 : (r.2.2 == r.2.2) = true := by simp
    have b3 : (((r.2.1 + m : Nat) : Int) == IntKind.i64.wrap ((m : Int) + (r.2.1 : Nat))) = true := by
      rw [wrap_i64_id (by omega) (by omega)]
      simp
      omega
    simp -implicitDefEqProofs only [go_sem, reduceIte, Nat.reduceAdd, Nat.reduceSub, Nat.reduceMul, Nat.reduceLT, Nat.reduceLeDiff, Nat.reduceEqDiff, Nat.reduceBEq, Int.reduceLE, Int.reduceLT, Int.reduceToNat, Int.reduceMul, Int.reduceAdd, Int.reduceSub, Int.reduceNeg, Int.reduceEq, reduceCtorEq, Nat.reduceMod, Int.reduceBNe, Int.reduceBEq, Int.reduceGT, Int.reduceGE, Int.reduceNe, Int.cast_ofNat_Int, Int.natCast_zero, Int.natCast_one, bne_self_eq_false, gt_iff_lt, ge_iff_le, Int.lt_irrefl, Int.le_refl, opsT_length, e5]
    refine ⟨⟨by omega, .inr (okEs_ops l)⟩, call_d hR3 ?_⟩
    simp -implicitDefEqProofs only [go_sem, reduceIte, Nat.reduceAdd, Nat.reduceSub, Nat.reduceMul, Nat.reduceLT, Nat.reduceLeDiff, Nat.reduceEqDiff, Nat.reduceBEq, Int.reduceLE, Int.reduceLT, Int.reduceToNat, Int.reduceMul, Int.reduceAdd, Int.reduceSub, Int.reduceNeg, Int.reduceEq, reduceCtorEq, Nat.reduceMod, Int.reduceBNe, Int.reduceBEq, Int.reduceGT, Int.reduceGE, Int.reduceNe, Int.cast_ofNat_Int, Int.natCast_zero, Int.natCast_one, bne_self_eq_false, gt_iff_lt, ge_iff_le, Int.lt_irrefl, Int.le_refl, b1, b2, b3]
    refine call_k (s_ref01_Same r.1 r.1 hsm1 hsm1) ?_
    simp -implicitDefEqProofs only [go_sem, reduceIte, Nat.reduceAdd, Nat.reduceSub, Nat.reduceMul, Nat.reduceLT, Nat.reduceLeDiff, Nat.reduceEqDiff, Nat.reduceBEq, Int.reduceLE, Int.reduceLT, Int.reduceToNat, Int.reduceMul, Int.reduceAdd, Int.reduceSub, Int.reduceNeg, Int.reduceEq, reduceCtorEq, Nat.reduceMod, Int.reduceBNe, Int.reduceBEq, Int.reduceGT, Int.reduceGE, Int.reduceNe, Int.cast_ofNat_Int, Int.natCast_zero, Int.natCast_one, bne_self_eq_false, gt_iff_lt, ge_iff_le, Int.lt_irrefl, Int.le_refl, sameD_self]
    refine call_k (s_ref01_Check r.1 hsm1) ?_
    simp -implicitDefEqProofs only [go_sem, reduceIte, Nat.reduceAdd, Nat.reduceSub, Nat.reduceMul, Nat.reduceLT, Nat.reduceLeDiff, Nat.reduceEqDiff, Nat.reduceBEq, Int.reduceLE, Int.reduceLT, Int.reduceToNat, Int.reduceMul, Int.reduceAdd, Int.reduceSub, Int.reduceNeg, Int.reduceEq, reduceCtorEq, Nat.reduceMod, Int.reduceBNe, Int.reduceBEq, Int.reduceGT, Int.reduceGE, Int.reduceNe, Int.cast_ofNat_Int, Int.natCast_zero, Int.natCast_one, bne_self_eq_false, gt_iff_lt, ge_iff_le, Int.lt_irrefl, Int.le_refl, hck1]
    refine call_k s_law01_alive ?_
    simp -implicitDefEqProofs only [go_sem, reduceIte, Nat.reduceAdd, Nat.reduceSub, Nat.reduceMul, Nat.reduceLT, Nat.reduceLeDiff, Nat.reduceEqDiff, Nat.reduceBEq, Int.reduceLE, Int.reduceLT, Int.reduceToNat, Int.reduceMul, Int.reduceAdd, Int.reduceSub, Int.reduceNeg, Int.reduceEq, reduceCtorEq, Nat.reduceMod]
  · have hzb : ((runL d (l.take m) 0).2.2 != 0) = true := by simpa using hz
    have g := g2 hz
    rw [g]
    have b1 : ((runL d (l.take m) 0).2.2 == (runL d (l.take m) 0).2.2) = true := by simp
    have b2 : ((((runL d (l.take m) 0).2.1 : Nat) : Int) == ((runL d (l.take m) 0).2.1 : Nat)) = true := by simp
    simp -implicitDefEqProofs only [go_sem, reduceIte, Nat.reduceAdd, Nat.reduceSub, Nat.reduceMul, Nat.reduceLT, Nat.reduceLeDiff, Nat.reduceEqDiff, Nat.reduceBEq, Int.reduceLE, Int.reduceLT, Int.reduceToNat, Int.reduceMul, Int.reduceAdd, Int.reduceSub, Int.reduceNeg, Int.reduceEq, reduceCtorEq, Nat.reduceMod, Int.reduceBNe, Int.reduceBEq, Int.reduceGT, Int.reduceGE, Int.reduceNe, Int.cast_ofNat_Int, Int.natCast_zero, Int.natCast_one, bne_self_eq_false, gt_iff_lt, ge_iff_le, Int.lt_irrefl, Int.le_refl, hzb, b1, b2]
    refine call_k (s_ref01_Same (runL d (l.take m) 0).1 (runL d (l.take m) 0).1 hsm2 hsm2) ?_
    simp -implicitDefEqProofs only [go_sem, reduceIte, Nat.reduceAdd, Nat.reduceSub, Nat.reduceMul, Nat.reduceLT, Nat.reduceLeDiff, Nat.reduceEqDiff, Nat.reduceBEq, Int.reduceLE, Int.reduceLT, Int.reduceToNat, Int.reduceMul, Int.reduceAdd, Int.reduceSub, Int.reduceNeg, Int.reduceEq, reduceCtorEq, Nat.reduceMod, Int.reduceBNe, Int.reduceBEq, Int.reduceGT, Int.reduceGE, Int.reduceNe, Int.cast_ofNat_Int, Int.natCast_zero, Int.natCast_one, bne_self_eq_false, gt_iff_lt, ge_iff_le, Int.lt_irrefl, Int.le_refl, sameD_self]
    refine call_k s_law01_alive ?_
    simp -implicitDefEqProofs only [go_sem, reduceIte, Nat.reduceAdd, Nat.reduceSub, Nat.reduceMul, Nat.reduceLT, Nat.reduceLeDiff, Nat.reduceEqDiff, Nat.reduceBEq, Int.reduceLE, Int.reduceLT, Int.reduceToNat, Int.reduceMul, Int.reduceAdd, Int.reduceSub, Int.reduceNeg, Int.reduceEq, reduceCtorEq, Nat.reduceMod]
end Go.Proofs.Ytgiifhkcgigokaa.Pm
