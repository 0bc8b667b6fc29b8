/- disk: plain facts on devices; what was synced stays. No law of Go's is stated here. -/
import Derived.Test.YtgiifhkcgigokaaPmGn
set_option linter.all false
set_option maxRecDepth 100000
set_option maxHeartbeats 2000000
namespace Go.Proofs.Ytgiifhkcgigokaa.Pm
open Go Go.RowKit

def greatB (d : Dev) : Bool := decide (3000 < d.syn.length) || decide (3000 < d.tail.length)
def fitB (d : Dev) : Bool := !greatB d && (d.upE == 0)
theorem small_of_great {d : Dev} (h : greatB d = false) : d.small := by
  simp [greatB] at h
  exact ⟨by omega, by omega⟩
theorem s_ref01_Great' (d : Dev) : Spec Try.prog 10 [.agg d.cells] [] (.t (.b (greatB d)) true) := s_ref01_Great d
theorem s_law01_fit (d : Dev) : Spec Try.prog 37 [.agg d.cells] [] (.t (.b (fitB d)) true) := by
  refine spec_k (hold mixed) b_law01_fit [(.b (fitB d), true)] ?_
  simp -implicitDefEqProofs only [go_sem, reduceIte, Nat.reduceAdd, Nat.reduceSub, Nat.reduceMul, Nat.reduceLT, Nat.reduceLeDiff, Nat.reduceEqDiff, Nat.reduceBEq, Int.reduceLE, Int.reduceLT, Int.reduceToNat, Int.reduceMul, Int.reduceAdd, Int.reduceSub, Int.reduceNeg, Int.reduceEq, reduceCtorEq, Nat.reduceMod]
  refine call_k (s_ref01_Great' d) ?_
  by_cases hg : greatB d = true
  · simp -implicitDefEqProofs only [go_sem, reduceIte, Nat.reduceAdd, Nat.reduceSub, Nat.reduceMul, Nat.reduceLT, Nat.reduceLeDiff, Nat.reduceEqDiff, Nat.reduceBEq, Int.reduceLE, Int.reduceLT, Int.reduceToNat, Int.reduceMul, Int.reduceAdd, Int.reduceSub, Int.reduceNeg, Int.reduceEq, reduceCtorEq, Nat.reduceMod, hg, fitB]
  · have hg : greatB d = false := by simpa using hg
    simp -implicitDefEqProofs only [go_sem, reduceIte, Nat.reduceAdd, Nat.reduceSub, Nat.reduceMul, Nat.reduceLT, Nat.reduceLeDiff, Nat.reduceEqDiff, Nat.reduceBEq, Int.reduceLE, Int.reduceLT, Int.reduceToNat, Int.reduceMul, Int.reduceAdd, Int.reduceSub, Int.reduceNeg, Int.reduceEq, reduceCtorEq, Nat.reduceMod, hg, fitB]
    refine call_k (s_ref01_Up d (small_of_great hg)) ?_
    simp -implicitDefEqProofs only [go_sem, reduceIte, Nat.reduceAdd, Nat.reduceSub, Nat.reduceMul, Nat.reduceLT, Nat.reduceLeDiff, Nat.reduceEqDiff, Nat.reduceBEq, Int.reduceLE, Int.reduceLT, Int.reduceToNat, Int.reduceMul, Int.reduceAdd, Int.reduceSub, Int.reduceNeg, Int.reduceEq, reduceCtorEq, Nat.reduceMod, hg, fitB]
theorem fit_of {d : Dev} (h : fitB d = true) : greatB d = false ∧ d.check = 0 ∧ d.down = false ∧ d.upE = 0 := by
  simp only [fitB, Bool.and_eq_true, Bool.not_eq_true', beq_iff_eq] at h
  rcases d.up3 with ⟨hc, hn, hu⟩ | ⟨hc, hn, hu⟩ | ⟨hc, hn, hu⟩
  · omega
  · omega
  · exact ⟨h.1, hc, hn, hu⟩
theorem check_of {d : Dev} (h0 : 0 ≤ d.cap) (h1 : d.cap ≤ 20000) (h2 : (d.syn.length : Int) + d.tail.length ≤ d.cap) (h3 : d.down = true → d.tail = []) : d.check = 0 := by
  have hb : d.bad = false := by
    unfold Dev.bad
    rw [decide_eq_false (by omega), decide_eq_false (by omega), decide_eq_false (by omega)]
    cases hd : d.down
    · rfl
    · rw [h3 hd]; rfl
  unfold Dev.check
  rw [hb]
  rfl
theorem upE_of {d : Dev} (h : d.check = 0) (hd : d.down = false) : d.upE = 0 := by
  rcases d.up3 with ⟨hc, hn, hu⟩ | ⟨hc, hn, hu⟩ | ⟨hc, hn, hu⟩
  · omega
  · rw [hd] at hn; cases hn
  · exact hu
theorem law_DiskStays (d : Dev) (b : List (BitVec 8)) (n : Int) (h0 : -9223372036854775808 ≤ n) (h1' : n ≤ 9223372036854775807) (hbl : b.length ≤ 140737488355328) : Spec Try.prog 6 [.agg d.cells, .sl (bT b), .i .i64 n] [] (.t (.b true) true) := by
  refine spec_k (hold mixed) b_law01_DiskStays [(.b true, true)] ?_
  have h1 : n < 9223372036854775808 := by omega
  simp -implicitDefEqProofs only [go_sem, reduceIte, Nat.reduceAdd, Nat.reduceSub, Nat.reduceMul, Nat.reduceLT, Nat.reduceLeDiff, Nat.reduceEqDiff, Nat.reduceBEq, Int.reduceLE, Int.reduceLT, Int.reduceToNat, Int.reduceMul, Int.reduceAdd, Int.reduceSub, Int.reduceNeg, Int.reduceEq, reduceCtorEq, Nat.reduceMod]
  refine call_k (s_law01_fit d) ?_
  by_cases hf : fitB d = false
  · simp -implicitDefEqProofs only [go_sem, reduceIte, Nat.reduceAdd, Nat.reduceSub, Nat.reduceMul, Nat.reduceLT, Nat.reduceLeDiff, Nat.reduceEqDiff, Nat.reduceBEq, Int.reduceLE, Int.reduceLT, Int.reduceToNat, Int.reduceMul, Int.reduceAdd, Int.reduceSub, Int.reduceNeg, Int.reduceEq, reduceCtorEq, Nat.reduceMod, hf]
    refine call_k s_law01_alive ?_
    simp -implicitDefEqProofs only [go_sem, reduceIte, Nat.reduceAdd, Nat.reduceSub, Nat.reduceMul, Nat.reduceLT, Nat.reduceLeDiff, Nat.reduceEqDiff, Nat.reduceBEq, Int.reduceLE, Int.reduceLT, Int.reduceToNat, Int.reduceMul, Int.reduceAdd, Int.reduceSub, Int.reduceNeg, Int.reduceEq, reduceCtorEq, Nat.reduceMod]
  replace hf : fitB d = true := by simpa using hf
  by_cases hb : ((b.length : Int) > 3000)
  · simp -implicitDefEqProofs only [go_sem, reduceIte, Nat.reduceAdd, Nat.reduceSub, Nat.reduceMul, Nat.reduceLT, Nat.reduceLeDiff, Nat.reduceEqDiff, Nat.reduceBEq, Int.reduceLE, Int.reduceLT, Int.reduceToNat, Int.reduceMul, Int.reduceAdd, Int.reduceSub, Int.reduceNeg, Int.reduceEq, reduceCtorEq, Nat.reduceMod, hf, hb]
    refine call_k s_law01_alive ?_
    simp -implicitDefEqProofs only [go_sem, reduceIte, Nat.reduceAdd, Nat.reduceSub, Nat.reduceMul, Nat.reduceLT, Nat.reduceLeDiff, Nat.reduceEqDiff, Nat.reduceBEq, Int.reduceLE, Int.reduceLT, Int.reduceToNat, Int.reduceMul, Int.reduceAdd, Int.reduceSub, Int.reduceNeg, Int.reduceEq, reduceCtorEq, Nat.reduceMod]
  obtain ⟨hg, hc, hdn, hu⟩ := fit_of hf
  have hd := small_of_great hg
  obtain ⟨k1, k2, k3⟩ := d.ok_of hc
  have hb' : b.length ≤ 100000 := by omega
  simp -implicitDefEqProofs only [go_sem, reduceIte, Nat.reduceAdd, Nat.reduceSub, Nat.reduceMul, Nat.reduceLT, Nat.reduceLeDiff, Nat.reduceEqDiff, Nat.reduceBEq, Int.reduceLE, Int.reduceLT, Int.reduceToNat, Int.reduceMul, Int.reduceAdd, Int.reduceSub, Int.reduceNeg, Int.reduceEq, reduceCtorEq, Nat.reduceMod, hf, hb]
  by_cases hl : (d.syn.length : Int) + d.tail.length + b.length ≤ d.cap
  case neg =>
    have ev : d.app b = (zeroD, 18) := by simp [Dev.app, orE, hu, hl]
    have hw1 : IntKind.i64.wrap ((d.syn.length : Int) + (d.tail.length : Int)) = d.syn.length + d.tail.length := wrap_i64_id (by omega) (by omega)
    have hw2 : IntKind.i64.wrap ((d.syn.length : Int) + (d.tail.length : Int) + (b.length : Int)) = d.syn.length + d.tail.length + b.length := wrap_i64_id (by omega) (by omega)
    have e1 : ((d.syn.length : Int) + d.tail.length + b.length > d.cap) = True := eq_true (by omega)
    have hA := s_disk_Append d b hd hb'
    rw [ev] at hA
    refine call_k hA ?_
    simp -implicitDefEqProofs only [go_sem, reduceIte, Nat.reduceAdd, Nat.reduceSub, Nat.reduceMul, Nat.reduceLT, Nat.reduceLeDiff, Nat.reduceEqDiff, Nat.reduceBEq, Int.reduceLE, Int.reduceLT, Int.reduceToNat, Int.reduceMul, Int.reduceAdd, Int.reduceSub, Int.reduceNeg, Int.reduceEq, reduceCtorEq, Nat.reduceMod, Int.reduceBNe, Int.reduceBEq, Int.reduceGT, Int.reduceGE, Int.reduceNe, Int.cast_ofNat_Int, Int.natCast_zero, Int.natCast_one, bne_self_eq_false, gt_iff_lt, ge_iff_le, Int.lt_irrefl, Int.le_refl, hw1, hw2, e1]
    refine call_k s_law01_alive ?_
    simp -implicitDefEqProofs only [go_sem, reduceIte, Nat.reduceAdd, Nat.reduceSub, Nat.reduceMul, Nat.reduceLT, Nat.reduceLeDiff, Nat.reduceEqDiff, Nat.reduceBEq, Int.reduceLE, Int.reduceLT, Int.reduceToNat, Int.reduceMul, Int.reduceAdd, Int.reduceSub, Int.reduceNeg, Int.reduceEq, reduceCtorEq, Nat.reduceMod, Int.reduceBNe, Int.reduceBEq, Int.reduceGT, Int.reduceGE, Int.reduceNe, Int.cast_ofNat_Int, Int.natCast_zero, Int.natCast_one, bne_self_eq_false, gt_iff_lt, ge_iff_le, Int.lt_irrefl, Int.le_refl]
  have ev : d.app b = (⟨d.syn, d.tail ++ b, d.cap, false⟩, 0) := by simp [Dev.app, orE, hu, hl]
  have hA := s_disk_Append d b hd hb'
  rw [ev] at hA
  refine call_k hA ?_
  simp -implicitDefEqProofs only [go_sem, reduceIte, Nat.reduceAdd, Nat.reduceSub, Nat.reduceMul, Nat.reduceLT, Nat.reduceLeDiff, Nat.reduceEqDiff, Nat.reduceBEq, Int.reduceLE, Int.reduceLT, Int.reduceToNat, Int.reduceMul, Int.reduceAdd, Int.reduceSub, Int.reduceNeg, Int.reduceEq, reduceCtorEq, Nat.reduceMod, Int.reduceBNe, Int.reduceBEq, Int.reduceGT, Int.reduceGE, Int.reduceNe, Int.cast_ofNat_Int, Int.natCast_zero, Int.natCast_one, bne_self_eq_false, gt_iff_lt, ge_iff_le, Int.lt_irrefl, Int.le_refl]
  generalize hnow : (⟨d.syn, d.tail ++ b, d.cap, false⟩ : Dev) = now
  have ns : now.syn = d.syn := by rw [← hnow]
  have nt : now.tail = d.tail ++ b := by rw [← hnow]
  have nc : now.cap = d.cap := by rw [← hnow]
  have nd : now.down = false := by rw [← hnow]
  have ntl : (now.tail.length : Int) = d.tail.length + b.length := by rw [nt, List.length_append]; omega
  have nck : now.check = 0 := check_of (by rw [nc]; exact k1) (by rw [nc]; exact k2) (by rw [ns, nc]; omega) (by rw [nd]; intro h; cases h)
  have nu := upE_of nck nd
  have nsm := small_of nck
  have hC := s_disk_Crash now n nsm h0 h1
  simp only [Dev.cells, ns, nt, nc, nd] at hC
  by_cases c0 : n < 0
  · have ec : now.crash n = (zeroD, 2) := by simp [Dev.crash, orE, nu]; omega
    rw [ec] at hC
    refine call_k hC ?_
    simp -implicitDefEqProofs only [go_sem, reduceIte, Nat.reduceAdd, Nat.reduceSub, Nat.reduceMul, Nat.reduceLT, Nat.reduceLeDiff, Nat.reduceEqDiff, Nat.reduceBEq, Int.reduceLE, Int.reduceLT, Int.reduceToNat, Int.reduceMul, Int.reduceAdd, Int.reduceSub, Int.reduceNeg, Int.reduceEq, reduceCtorEq, Nat.reduceMod, Int.reduceBNe, Int.reduceBEq, Int.reduceGT, Int.reduceGE, Int.reduceNe, Int.cast_ofNat_Int, Int.natCast_zero, Int.natCast_one, bne_self_eq_false, gt_iff_lt, ge_iff_le, Int.lt_irrefl, Int.le_refl, c0]
    refine call_k s_law01_alive ?_
    simp -implicitDefEqProofs only [go_sem, reduceIte, Nat.reduceAdd, Nat.reduceSub, Nat.reduceMul, Nat.reduceLT, Nat.reduceLeDiff, Nat.reduceEqDiff, Nat.reduceBEq, Int.reduceLE, Int.reduceLT, Int.reduceToNat, Int.reduceMul, Int.reduceAdd, Int.reduceSub, Int.reduceNeg, Int.reduceEq, reduceCtorEq, Nat.reduceMod, Int.reduceBNe, Int.reduceBEq, Int.reduceGT, Int.reduceGE, Int.reduceNe, Int.cast_ofNat_Int, Int.natCast_zero, Int.natCast_one, bne_self_eq_false, gt_iff_lt, ge_iff_le, Int.lt_irrefl, Int.le_refl]
  by_cases c1 : n > now.tail.length
  · have ec : now.crash n = (zeroD, 2) := by simp [Dev.crash, orE, nu]; omega
    have c1' : n > ((d.tail ++ b).length : Int) := by rw [← nt]; exact c1
    rw [ec] at hC
    refine call_k hC ?_
    simp -implicitDefEqProofs only [go_sem, reduceIte, Nat.reduceAdd, Nat.reduceSub, Nat.reduceMul, Nat.reduceLT, Nat.reduceLeDiff, Nat.reduceEqDiff, Nat.reduceBEq, Int.reduceLE, Int.reduceLT, Int.reduceToNat, Int.reduceMul, Int.reduceAdd, Int.reduceSub, Int.reduceNeg, Int.reduceEq, reduceCtorEq, Nat.reduceMod, Int.reduceBNe, Int.reduceBEq, Int.reduceGT, Int.reduceGE, Int.reduceNe, Int.cast_ofNat_Int, Int.natCast_zero, Int.natCast_one, bne_self_eq_false, gt_iff_lt, ge_iff_le, Int.lt_irrefl, Int.le_refl, c0, c1']
    refine call_k s_law01_alive ?_
    simp -implicitDefEqProofs only [go_sem, reduceIte, Nat.reduceAdd, Nat.reduceSub, Nat.reduceMul, Nat.reduceLT, Nat.reduceLeDiff, Nat.reduceEqDiff, Nat.reduceBEq, Int.reduceLE, Int.reduceLT, Int.reduceToNat, Int.reduceMul, Int.reduceAdd, Int.reduceSub, Int.reduceNeg, Int.reduceEq, reduceCtorEq, Nat.reduceMod, Int.reduceBNe, Int.reduceBEq, Int.reduceGT, Int.reduceGE, Int.reduceNe, Int.cast_ofNat_Int, Int.natCast_zero, Int.natCast_one, bne_self_eq_false, gt_iff_lt, ge_iff_le, Int.lt_irrefl, Int.le_refl]
  obtain ⟨m, rfl⟩ : ∃ m : Nat, n = m := ⟨n.toNat, by omega⟩
  have hm : m ≤ now.tail.length := by omega
  have ec : now.crash m = (⟨d.syn ++ (d.tail ++ b).take m, [], d.cap, true⟩, 0) := by
    simp [Dev.crash, orE, nu, hm, ns, nt, nc]
    omega
  have hlen : (d.syn ++ (d.tail ++ b).take m).length = d.syn.length + m := by rw [List.length_append, List.length_take, ← nt]; omega
  rw [ec] at hC
  refine call_k hC ?_
  simp -implicitDefEqProofs only [go_sem, reduceIte, Nat.reduceAdd, Nat.reduceSub, Nat.reduceMul, Nat.reduceLT, Nat.reduceLeDiff, Nat.reduceEqDiff, Nat.reduceBEq, Int.reduceLE, Int.reduceLT, Int.reduceToNat, Int.reduceMul, Int.reduceAdd, Int.reduceSub, Int.reduceNeg, Int.reduceEq, reduceCtorEq, Nat.reduceMod, Int.reduceBNe, Int.reduceBEq, Int.reduceGT, Int.reduceGE, Int.reduceNe, Int.cast_ofNat_Int, Int.natCast_zero, Int.natCast_one, bne_self_eq_false, gt_iff_lt, ge_iff_le, Int.lt_irrefl, Int.le_refl]
  have dck : (⟨d.syn ++ (d.tail ++ b).take m, [], d.cap, true⟩ : Dev).check = 0 := check_of k1 k2 (by show ((d.syn ++ (d.tail ++ b).take m).length : Int) + (([] : List (BitVec 8)).length : Nat) ≤ d.cap; rw [hlen]; simp; omega) (fun _ => rfl)
  have hS := s_disk_Start ⟨d.syn ++ (d.tail ++ b).take m, [], d.cap, true⟩ (small_of dck)
  have es : Dev.start ⟨d.syn ++ (d.tail ++ b).take m, [], d.cap, true⟩ = (⟨d.syn ++ (d.tail ++ b).take m, [], d.cap, false⟩, 0) := by simp [Dev.start, dck]
  rw [es] at hS
  refine call_k hS ?_
  simp -implicitDefEqProofs only [go_sem, reduceIte, Nat.reduceAdd, Nat.reduceSub, Nat.reduceMul, Nat.reduceLT, Nat.reduceLeDiff, Nat.reduceEqDiff, Nat.reduceBEq, Int.reduceLE, Int.reduceLT, Int.reduceToNat, Int.reduceMul, Int.reduceAdd, Int.reduceSub, Int.reduceNeg, Int.reduceEq, reduceCtorEq, Nat.reduceMod, Int.reduceBNe, Int.reduceBEq, Int.reduceGT, Int.reduceGE, Int.reduceNe, Int.cast_ofNat_Int, Int.natCast_zero, Int.natCast_one, bne_self_eq_false, gt_iff_lt, ge_iff_le, Int.lt_irrefl, Int.le_refl]
  have ack : (⟨d.syn ++ (d.tail ++ b).take m, [], d.cap, false⟩ : Dev).check = 0 := check_of k1 k2 (by show ((d.syn ++ (d.tail ++ b).take m).length : Int) + (([] : List (BitVec 8)).length : Nat) ≤ d.cap; rw [hlen]; simp; omega) (fun _ => rfl)
  have hK := s_ref01_Check ⟨d.syn ++ (d.tail ++ b).take m, [], d.cap, false⟩ (small_of ack)
  rw [ack] at hK
  have heq : ((((d.syn ++ (d.tail ++ b).take m).length : Nat) : Int) == IntKind.i64.wrap ((d.syn.length : Int) + (m : Int))) = true := by
    rw [wrap_i64_id (by omega) (by omega), hlen]
    simp
  have st1 : startsL (d.syn ++ (d.tail ++ b).take m) d.syn = true := by
    unfold startsL
    rw [List.take_left, hlen]
    simp
  have st2 : startsL (now.syn ++ now.tail) (d.syn ++ (d.tail ++ b).take m) = true := by
    unfold startsL
    rw [hlen, ns, nt, List.take_length_add_append]
    have : d.syn.length + m ≤ (d.syn ++ (d.tail ++ b)).length := by rw [← nt, List.length_append]; omega
    simp only [this, decide_true, beq_self_eq_true, Bool.and_self]
  have hW := s_ref01_Whole now nsm
  simp only [Dev.cells, ns, nt, nc, nd] at hW
  have h9 := hd.1
  have htl : (d.tail ++ b).length ≤ 200000 := by rw [List.length_append]; have := hd.2; omega
  refine call_k hK ?_
  simp -implicitDefEqProofs only [go_sem, reduceIte, Nat.reduceAdd, Nat.reduceSub, Nat.reduceMul, Nat.reduceLT, Nat.reduceLeDiff, Nat.reduceEqDiff, Nat.reduceBEq, Int.reduceLE, Int.reduceLT, Int.reduceToNat, Int.reduceMul, Int.reduceAdd, Int.reduceSub, Int.reduceNeg, Int.reduceEq, reduceCtorEq, Nat.reduceMod, Int.reduceBNe, Int.reduceBEq, Int.reduceGT, Int.reduceGE, Int.reduceNe, Int.cast_ofNat_Int, Int.natCast_zero, Int.natCast_one, bne_self_eq_false, gt_iff_lt, ge_iff_le, Int.lt_irrefl, Int.le_refl, heq]
  refine call_d (s_ref01_Starts (d.syn ++ (d.tail ++ b).take m) d.syn (by omega) (by omega)) ?_
  simp -implicitDefEqProofs only [go_sem, reduceIte, Nat.reduceAdd, Nat.reduceSub, Nat.reduceMul, Nat.reduceLT, Nat.reduceLeDiff, Nat.reduceEqDiff, Nat.reduceBEq, Int.reduceLE, Int.reduceLT, Int.reduceToNat, Int.reduceMul, Int.reduceAdd, Int.reduceSub, Int.reduceNeg, Int.reduceEq, reduceCtorEq, Nat.reduceMod, st1]
  refine call_d hW ?_
  simp -implicitDefEqProofs only [go_sem, reduceIte, Nat.reduceAdd, Nat.reduceSub, Nat.reduceMul, Nat.reduceLT, Nat.reduceLeDiff, Nat.reduceEqDiff, Nat.reduceBEq, Int.reduceLE, Int.reduceLT, Int.reduceToNat, Int.reduceMul, Int.reduceAdd, Int.reduceSub, Int.reduceNeg, Int.reduceEq, reduceCtorEq, Nat.reduceMod]
  refine call_d (s_ref01_Starts (d.syn ++ (d.tail ++ b)) (d.syn ++ (d.tail ++ b).take m) (by rw [List.length_append]; omega) (by omega)) ?_ (by simp -implicitDefEqProofs only [go_sem, reduceIte, Nat.reduceAdd, Nat.reduceSub, Nat.reduceMul, Nat.reduceLT, Nat.reduceLeDiff, Nat.reduceEqDiff, Nat.reduceBEq, Int.reduceLE, Int.reduceLT, Int.reduceToNat, Int.reduceMul, Int.reduceAdd, Int.reduceSub, Int.reduceNeg, Int.reduceEq, reduceCtorEq, Nat.reduceMod, bT_take_self])
  rw [ns, nt] at st2
  simp -implicitDefEqProofs only [go_sem, reduceIte, Nat.reduceAdd, Nat.reduceSub, Nat.reduceMul, Nat.reduceLT, Nat.reduceLeDiff, Nat.reduceEqDiff, Nat.reduceBEq, Int.reduceLE, Int.reduceLT, Int.reduceToNat, Int.reduceMul, Int.reduceAdd, Int.reduceSub, Int.reduceNeg, Int.reduceEq, reduceCtorEq, Nat.reduceMod, st2]
  refine call_d s_law01_alive ?_
  simp -implicitDefEqProofs only [go_sem, reduceIte, Nat.reduceAdd, Nat.reduceSub, Nat.reduceMul, Nat.reduceLT, Nat.reduceLeDiff, Nat.reduceEqDiff, Nat.reduceBEq, Int.reduceLE, Int.reduceLT, Int.reduceToNat, Int.reduceMul, Int.reduceAdd, Int.reduceSub, Int.reduceNeg, Int.reduceEq, reduceCtorEq, Nat.reduceMod]
end Go.Proofs.Ytgiifhkcgigokaa.Pm
