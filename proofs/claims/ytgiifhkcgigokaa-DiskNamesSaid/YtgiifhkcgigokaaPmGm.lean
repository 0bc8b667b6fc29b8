/- disk: what scripts do. No law of Go's is stated here. -/
import Derived.Test.YtgiifhkcgigokaaPmGl
import Derived.Test.YtgiifhkcgigokaaPmKh
set_option linter.all false
set_option maxRecDepth 100000
set_option maxHeartbeats 2000000
namespace Go.Proofs.Ytgiifhkcgigokaa.Pm
open Go Go.RowKit

theorem fine_of {l : List DOp} (hl : longB l = false) (hr : ∀ o ∈ l, -9223372036854775808 ≤ o.n ∧ o.n ≤ 9223372036854775807) : ∀ o ∈ l, o.fine := by
  intro o ho
  unfold longB at hl
  rw [Bool.or_eq_false_iff] at hl
  have h1 := List.any_eq_false.1 hl.1 o ho
  have := hr o ho
  simp at h1
  exact ⟨by omega, by omega, by omega⟩
def runsF (d : Dev) (l : List DOp) (k : Nat) (bs : List (BitVec 8)) : S := ⟨tmL [(5, .ptr 3 0), (6, .ptr 4 0), (7, .t (.i .i64 (d.run l).2.1) true), (8, .t (.i .i64 (d.run l).2.2) true), (9, .ptr 5 0), (10, .t (.i .i64 (d.run l).2.1) true), (11, .t (.i .i64 (d.run l).2.2) true), (12, .t (.i .i64 k) true)],
  [.var [.t (.sl (bT d.syn)) false, .t (.sl (bT d.tail)) false, .t (.i .i64 d.cap) false, .t (.b d.down) false], .row 0 1 (bT d.syn) true, .row 0 1 (bT bs) true,
   .var [.row 1 0 0 d.syn.length, .row 2 0 0 d.tail.length, .t (.i .i64 d.cap) true, .t (.b d.down) true],
   .var [.t (.sl (bT (d.run l).1.syn)) true, .t (.sl (bT (d.run l).1.tail)) true, .t (.i .i64 (d.run l).1.cap) true, .t (.b (d.run l).1.down) true],
   .var [.t (.sl (bT (d.run l).1.syn)) true, .t (.sl (bT (d.run l).1.tail)) true, .t (.i .i64 (d.run l).1.cap) true, .t (.b (d.run l).1.down) true]]⟩
theorem law_DiskRuns (d : Dev) (l : List DOp) (hn : l.length ≤ 140737488355328) (hr : ∀ o ∈ l, -9223372036854775808 ≤ o.n ∧ o.n ≤ 9223372036854775807) : Spec Try.prog 5 [.agg d.cells, .sl (opsT l)] [] (.t (.b true) true) := by
  refine spec_k (hold mixed) b_law01_DiskRuns [(.b true, true)] ?_
  by_cases hg : (decide (3000 < d.syn.length) || decide (3000 < d.tail.length)) = true
  · simp -implicitDefEqProofs only [go_sem, reduceIte, Nat.reduceAdd, Nat.reduceSub, Nat.reduceMul, Nat.reduceLT, Nat.reduceLeDiff, Nat.reduceEqDiff, Nat.reduceBEq, Int.reduceLE, Int.reduceLT, Int.reduceToNat, Int.reduceMul, Int.reduceAdd, Int.reduceSub, Int.reduceNeg, Int.reduceEq, reduceCtorEq, Nat.reduceMod]
    refine call_k (s_ref01_Great d) ?_
    simp -implicitDefEqProofs only [go_sem, reduceIte, Nat.reduceAdd, Nat.reduceSub, Nat.reduceMul, Nat.reduceLT, Nat.reduceLeDiff, Nat.reduceEqDiff, Nat.reduceBEq, Int.reduceLE, Int.reduceLT, Int.reduceToNat, Int.reduceMul, Int.reduceAdd, Int.reduceSub, Int.reduceNeg, Int.reduceEq, reduceCtorEq, Nat.reduceMod, hg]
  · have hg : (decide (3000 < d.syn.length) || decide (3000 < d.tail.length)) = false := by simpa using hg
    have hd : d.small := by simp at hg; exact ⟨by omega, by omega⟩
    simp -implicitDefEqProofs only [go_sem, reduceIte, Nat.reduceAdd, Nat.reduceSub, Nat.reduceMul, Nat.reduceLT, Nat.reduceLeDiff, Nat.reduceEqDiff, Nat.reduceBEq, Int.reduceLE, Int.reduceLT, Int.reduceToNat, Int.reduceMul, Int.reduceAdd, Int.reduceSub, Int.reduceNeg, Int.reduceEq, reduceCtorEq, Nat.reduceMod]
    refine call_k (s_ref01_Great d) ?_
    simp -implicitDefEqProofs only [go_sem, reduceIte, Nat.reduceAdd, Nat.reduceSub, Nat.reduceMul, Nat.reduceLT, Nat.reduceLeDiff, Nat.reduceEqDiff, Nat.reduceBEq, Int.reduceLE, Int.reduceLT, Int.reduceToNat, Int.reduceMul, Int.reduceAdd, Int.reduceSub, Int.reduceNeg, Int.reduceEq, reduceCtorEq, Nat.reduceMod, hg]
    refine call_k (s_ref01_Long l hn) ?_
    by_cases hl : longB l = true
    · simp -implicitDefEqProofs only [go_sem, reduceIte, Nat.reduceAdd, Nat.reduceSub, Nat.reduceMul, Nat.reduceLT, Nat.reduceLeDiff, Nat.reduceEqDiff, Nat.reduceBEq, Int.reduceLE, Int.reduceLT, Int.reduceToNat, Int.reduceMul, Int.reduceAdd, Int.reduceSub, Int.reduceNeg, Int.reduceEq, reduceCtorEq, Nat.reduceMod, hl]
    replace hl : longB l = false := by simpa using hl
    have hf := fine_of hl hr
    simp -implicitDefEqProofs only [go_sem, reduceIte, Nat.reduceAdd, Nat.reduceSub, Nat.reduceMul, Nat.reduceLT, Nat.reduceLeDiff, Nat.reduceEqDiff, Nat.reduceBEq, Int.reduceLE, Int.reduceLT, Int.reduceToNat, Int.reduceMul, Int.reduceAdd, Int.reduceSub, Int.reduceNeg, Int.reduceEq, reduceCtorEq, Nat.reduceMod, hl]
    refine call_k (s_ref01_Twin d hd) ?_
    simp -implicitDefEqProofs only [go_sem, reduceIte, Nat.reduceAdd, Nat.reduceSub, Nat.reduceMul, Nat.reduceLT, Nat.reduceLeDiff, Nat.reduceEqDiff, Nat.reduceBEq, Int.reduceLE, Int.reduceLT, Int.reduceToNat, Int.reduceMul, Int.reduceAdd, Int.reduceSub, Int.reduceNeg, Int.reduceEq, reduceCtorEq, Nat.reduceMod]
    refine call_k (s_disk_Run d l hd hf hn) ?_ (by simp -implicitDefEqProofs only [go_sem, reduceIte, Nat.reduceAdd, Nat.reduceSub, Nat.reduceMul, Nat.reduceLT, Nat.reduceLeDiff, Nat.reduceEqDiff, Nat.reduceBEq, Int.reduceLE, Int.reduceLT, Int.reduceToNat, Int.reduceMul, Int.reduceAdd, Int.reduceSub, Int.reduceNeg, Int.reduceEq, reduceCtorEq, Nat.reduceMod, bT_take_self])
    simp -implicitDefEqProofs only [go_sem, reduceIte, Nat.reduceAdd, Nat.reduceSub, Nat.reduceMul, Nat.reduceLT, Nat.reduceLeDiff, Nat.reduceEqDiff, Nat.reduceBEq, Int.reduceLE, Int.reduceLT, Int.reduceToNat, Int.reduceMul, Int.reduceAdd, Int.reduceSub, Int.reduceNeg, Int.reduceEq, reduceCtorEq, Nat.reduceMod]
    refine call_k (s_ref01_Run d l hd hf hn) ?_
    simp -implicitDefEqProofs only [go_sem, reduceIte, Nat.reduceAdd, Nat.reduceSub, Nat.reduceMul, Nat.reduceLT, Nat.reduceLeDiff, Nat.reduceEqDiff, Nat.reduceBEq, Int.reduceLE, Int.reduceLT, Int.reduceToNat, Int.reduceMul, Int.reduceAdd, Int.reduceSub, Int.reduceNeg, Int.reduceEq, reduceCtorEq, Nat.reduceMod]
    refine loop_l (α := Nat × List (BitVec 8)) (fun p => runsF d l p.1 p.2) (fun p => d.tail.length - p.1) (fun p => p.1 ≤ d.tail.length ∧ p.2.length = d.tail.length) (0, d.tail) (by simp -implicitDefEqProofs only [go_sem, reduceIte, Nat.reduceAdd, Nat.reduceSub, Nat.reduceMul, Nat.reduceLT, Nat.reduceLeDiff, Nat.reduceEqDiff, Nat.reduceBEq, Int.reduceLE, Int.reduceLT, Int.reduceToNat, Int.reduceMul, Int.reduceAdd, Int.reduceSub, Int.reduceNeg, Int.reduceEq, reduceCtorEq, Nat.reduceMod, runsF]; rfl) ⟨Nat.zero_le _, rfl⟩ ?_
    rintro ⟨k, bs⟩ ⟨hk, hbs⟩ R hR
    replace hk : k ≤ d.tail.length := hk
    have s1 : d.tail.length ≤ 100000 := hd.2
    replace hbs : bs.length = d.tail.length := hbs
    simp -implicitDefEqProofs only [go_sem, reduceIte, Nat.reduceAdd, Nat.reduceSub, Nat.reduceMul, Nat.reduceLT, Nat.reduceLeDiff, Nat.reduceEqDiff, Nat.reduceBEq, Int.reduceLE, Int.reduceLT, Int.reduceToNat, Int.reduceMul, Int.reduceAdd, Int.reduceSub, Int.reduceNeg, Int.reduceEq, reduceCtorEq, Nat.reduceMod, runsF]
    refine wcond_mk (fun h => ?_) (fun h => ?_)
    · have hk' : k < d.tail.length := by have := of_decide_eq_true h; omega
      have hk2 : k < bs.length := by omega
      have hwb : IntKind.u8.wrap (((bs[k].toNat : Nat) : Int) + 1) = (((bs[k] + 1#8).toNat : Nat) : Int) := by
        rw [IntKind.wrap_u8', BitVec.toNat_add]; rfl
      have hset : (bT bs).set k (setT [T.i .u8 bs[k].toNat] 0 [T.i .u8 (bs[k] + 1#8).toNat]) = bT (bs.set k (bs[k] + 1#8)) := by
        rw [setT_one _ _ rfl, bT_setN]
      simp -implicitDefEqProofs only [go_sem, reduceIte, Nat.reduceAdd, Nat.reduceSub, Nat.reduceMul, Nat.reduceLT, Nat.reduceLeDiff, Nat.reduceEqDiff, Nat.reduceBEq, Int.reduceLE, Int.reduceLT, Int.reduceToNat, Int.reduceMul, Int.reduceAdd, Int.reduceSub, Int.reduceNeg, Int.reduceEq, reduceCtorEq, Nat.reduceMod, bT_get hk2, hwb, hset]
      refine ⟨⟨by omega, by omega⟩, ⟨by omega, by omega⟩, hR (k + 1, bs.set k (bs[k] + 1#8)) _ ?_ ⟨by omega, by simp [hbs]⟩ (by show _ - (k + 1) < _ - k; omega)⟩
      simp -implicitDefEqProofs only [go_sem, reduceIte, Nat.reduceAdd, Nat.reduceSub, Nat.reduceMul, Nat.reduceLT, Nat.reduceLeDiff, Nat.reduceEqDiff, Nat.reduceBEq, Int.reduceLE, Int.reduceLT, Int.reduceToNat, Int.reduceMul, Int.reduceAdd, Int.reduceSub, Int.reduceNeg, Int.reduceEq, reduceCtorEq, Nat.reduceMod, wrap_i64_id (show -9223372036854775808 ≤ (k : Int) + 1 by omega) (by omega), Int.natCast_add, runsF]
      rfl
    · simp -implicitDefEqProofs only [go_sem, reduceIte, Nat.reduceAdd, Nat.reduceSub, Nat.reduceMul, Nat.reduceLT, Nat.reduceLeDiff, Nat.reduceEqDiff, Nat.reduceBEq, Int.reduceLE, Int.reduceLT, Int.reduceToNat, Int.reduceMul, Int.reduceAdd, Int.reduceSub, Int.reduceNeg, Int.reduceEq, reduceCtorEq, Nat.reduceMod]
      refine call_k (s_ref01_Same (d.run l).1 (d.run l).1 (run_small d l) (run_small d l)) ?_
      simp -implicitDefEqProofs only [go_sem, reduceIte, Nat.reduceAdd, Nat.reduceSub, Nat.reduceMul, Nat.reduceLT, Nat.reduceLeDiff, Nat.reduceEqDiff, Nat.reduceBEq, Int.reduceLE, Int.reduceLT, Int.reduceToNat, Int.reduceMul, Int.reduceAdd, Int.reduceSub, Int.reduceNeg, Int.reduceEq, reduceCtorEq, Nat.reduceMod, sameD_self]
end Go.Proofs.Ytgiifhkcgigokaa.Pm
