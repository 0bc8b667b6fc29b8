/- crc: the walk of the statement CrcMixes. No law of Go's is stated here. -/
import Derived.Test.YtadnjellfiafaaaPmCz
set_option linter.all false
set_option maxRecDepth 100000
namespace Go.Proofs.Ytadnjellfiafaaa.Pm
open Go Go.RowKit

def mix3 (xs ys zs : List (BitVec 8)) : List (BitVec 8) := mixL (mixL xs ys) zs
theorem mix3_length {xs ys zs : List (BitVec 8)} (hy : ys.length = xs.length) (hz : zs.length = xs.length) : (mix3 xs ys zs).length = xs.length := by
  simp [mix3, mixL, hy, hz]
theorem mix3_get {xs ys zs : List (BitVec 8)} {k : Nat} (hx : k < xs.length) (hy : k < ys.length) (hz : k < zs.length) (h : k < (mix3 xs ys zs).length) : (mix3 xs ys zs)[k] = xs[k] ^^^ ys[k] ^^^ zs[k] := by
  simp [mix3, mixL]
theorem take_step (ms : List (BitVec 8)) (k : Nat) (h : k < ms.length) : List.take k (List.take k (bT ms)) ++ [[T.i .u8 ms[k].toNat]] = List.take (k + 1) (bT ms) := by
  rw [List.take_take, Nat.min_self, List.take_succ, bT_get h]
  rfl
theorem okEs1 (k : IntKind) (a : Int) : okEs 1 [[.i k a]] = True := by
  apply eq_true
  intro e he
  simp only [List.mem_cons, List.not_mem_nil, or_false] at he
  subst he
  simp [T.one]
def mixF (xs ys zs : List (BitVec 8)) (n : Int) (os : List AV) (k : Nat) (es : List (List T)) : S := ⟨tmL [(0, .t (.sl (bT xs)) false), (1, .t (.sl (bT ys)) false), (2, .t (.sl (bT zs)) false), (3, .t (.i .i64 n) true), (9, .ptr 0 0), (11, .row 1 k 0 k), (12, .t (.i .i64 k) true)], [.var os, .row k 1 es true]⟩
attribute [go_sem] mixF
set_option maxHeartbeats 4000000 in
theorem s_law02_CrcMixes (xs ys zs : List (BitVec 8)) (n : Int) (hn0 : -9223372036854775808 ≤ n) (hn1 : n ≤ 9223372036854775807) (o0 o1 o2 o3 : BitVec 8) : Spec Try.prog 5 [.sl (bT xs), .sl (bT ys), .sl (bT zs), .i .i64 n, .agg [u8T o0, u8T o1, u8T o2, u8T o3]] [] (.t (.b true) true) := by
  refine spec_k (hold mixed) b_law02_CrcMixes [(.b true, true)] ?_
  by_cases hg : xs.length ≤ 1000 ∧ ys.length = xs.length ∧ zs.length = xs.length
  · obtain ⟨hl, hy, hz⟩ := hg
    have h1 : ((xs.length : Int) > 1000) = False := eq_false (by omega)
    simp -implicitDefEqProofs only [go_sem, reduceIte, Nat.reduceAdd, Nat.reduceSub, Nat.reduceMul, Nat.reduceLT, Nat.reduceLeDiff, Nat.reduceEqDiff, Nat.reduceBEq, Int.reduceLE, Int.reduceLT, Int.reduceToNat, Int.reduceMul, Int.reduceAdd, Int.reduceSub, Int.reduceNeg, Int.reduceEq, reduceCtorEq, Nat.reduceMod, h1, u8T, hy, hz, bne_self_eq_false]
    refine loop_l (α := Nat) (fun k => mixF xs ys zs n [.t (.i .u8 o0.toNat) false, .t (.i .u8 o1.toNat) false, .t (.i .u8 o2.toNat) false, .t (.i .u8 o3.toNat) false] k (List.take k (bT (mix3 xs ys zs)))) (fun k => xs.length - k) (fun k => k ≤ xs.length) 0 (by simp -implicitDefEqProofs only [go_sem, reduceIte, Nat.reduceAdd, Nat.reduceSub, Nat.reduceMul, Nat.reduceLT, Nat.reduceLeDiff, Nat.reduceEqDiff, Nat.reduceBEq, Int.reduceLE, Int.reduceLT, Int.reduceToNat, Int.reduceMul, Int.reduceAdd, Int.reduceSub, Int.reduceNeg, Int.reduceEq, reduceCtorEq, Nat.reduceMod]; rfl) (by omega) ?_
    intro k hk R hR
    simp -implicitDefEqProofs only [go_sem, reduceIte, Nat.reduceAdd, Nat.reduceSub, Nat.reduceMul, Nat.reduceLT, Nat.reduceLeDiff, Nat.reduceEqDiff, Nat.reduceBEq, Int.reduceLE, Int.reduceLT, Int.reduceToNat, Int.reduceMul, Int.reduceAdd, Int.reduceSub, Int.reduceNeg, Int.reduceEq, reduceCtorEq, Nat.reduceMod]
    refine wcond_mk (fun h => ?_) (fun h => ?_)
    · have hk' : k < xs.length := by have := of_decide_eq_true h; omega
      have hm : k < (mix3 xs ys zs).length := by rw [mix3_length hy hz]; exact hk'
      simp -implicitDefEqProofs only [go_sem, reduceIte, Nat.reduceAdd, Nat.reduceSub, Nat.reduceMul, Nat.reduceLT, Nat.reduceLeDiff, Nat.reduceEqDiff, Nat.reduceBEq, Int.reduceLE, Int.reduceLT, Int.reduceToNat, Int.reduceMul, Int.reduceAdd, Int.reduceSub, Int.reduceNeg, Int.reduceEq, reduceCtorEq, Nat.reduceMod, bT_get hk', bT_get (show k < ys.length by omega), bT_get (show k < zs.length by omega), hy, hz, okEs1]
      have e := take_step (mix3 xs ys zs) k hm
      rw [mix3_get hk' (by omega) (by omega) hm] at e
      refine ⟨⟨by rw [List.length_take, bT_length]; omega, by unfold room; omega⟩, hR (k + 1) _ ?_ (by omega) (by omega)⟩
      simp -implicitDefEqProofs only [go_sem, reduceIte, Nat.reduceAdd, Nat.reduceSub, Nat.reduceMul, Nat.reduceLT, Nat.reduceLeDiff, Nat.reduceEqDiff, Nat.reduceBEq, Int.reduceLE, Int.reduceLT, Int.reduceToNat, Int.reduceMul, Int.reduceAdd, Int.reduceSub, Int.reduceNeg, Int.reduceEq, reduceCtorEq, Nat.reduceMod, wrap_i64_id (show -9223372036854775808 ≤ (k : Int) + 1 by omega) (by omega), Int.natCast_add]
      exact congrArg (mixF xs ys zs n [.t (.i .u8 o0.toNat) false, .t (.i .u8 o1.toNat) false, .t (.i .u8 o2.toNat) false, .t (.i .u8 o3.toNat) false] (k + 1)) e
    · have hk' : ¬ k < xs.length := by have := of_decide_eq_false h; omega
      obtain rfl : k = xs.length := by omega
      simp -implicitDefEqProofs only [go_sem, reduceIte, Nat.reduceAdd, Nat.reduceSub, Nat.reduceMul, Nat.reduceLT, Nat.reduceLeDiff, Nat.reduceEqDiff, Nat.reduceBEq, Int.reduceLE, Int.reduceLT, Int.reduceToNat, Int.reduceMul, Int.reduceAdd, Int.reduceSub, Int.reduceNeg, Int.reduceEq, reduceCtorEq, Nat.reduceMod]
      refine call_k (s_crc_Sum' xs (by omega)) ?_
      simp -implicitDefEqProofs only [go_sem, reduceIte, Nat.reduceAdd, Nat.reduceSub, Nat.reduceMul, Nat.reduceLT, Nat.reduceLeDiff, Nat.reduceEqDiff, Nat.reduceBEq, Int.reduceLE, Int.reduceLT, Int.reduceToNat, Int.reduceMul, Int.reduceAdd, Int.reduceSub, Int.reduceNeg, Int.reduceEq, reduceCtorEq, Nat.reduceMod]
      refine call_k (s_crc_Sum' ys (by omega)) ?_
      simp -implicitDefEqProofs only [go_sem, reduceIte, Nat.reduceAdd, Nat.reduceSub, Nat.reduceMul, Nat.reduceLT, Nat.reduceLeDiff, Nat.reduceEqDiff, Nat.reduceBEq, Int.reduceLE, Int.reduceLT, Int.reduceToNat, Int.reduceMul, Int.reduceAdd, Int.reduceSub, Int.reduceNeg, Int.reduceEq, reduceCtorEq, Nat.reduceMod]
      refine call_k (s_crc_Sum' zs (by omega)) ?_
      simp -implicitDefEqProofs only [go_sem, reduceIte, Nat.reduceAdd, Nat.reduceSub, Nat.reduceMul, Nat.reduceLT, Nat.reduceLeDiff, Nat.reduceEqDiff, Nat.reduceBEq, Int.reduceLE, Int.reduceLT, Int.reduceToNat, Int.reduceMul, Int.reduceAdd, Int.reduceSub, Int.reduceNeg, Int.reduceEq, reduceCtorEq, Nat.reduceMod]
      have hM : List.take xs.length (bT (mix3 xs ys zs)) = bT (mix3 xs ys zs) := List.take_of_length_le (by rw [bT_length, mix3_length hy hz]; exact Nat.le_refl _)
      rw [hM]
      refine call_k (s_crc_Sum' (mix3 xs ys zs) (by rw [mix3_length hy hz]; omega)) ?_ (by simp -implicitDefEqProofs only [go_sem, reduceIte, Nat.reduceAdd, Nat.reduceSub, Nat.reduceMul, Nat.reduceLT, Nat.reduceLeDiff, Nat.reduceEqDiff, Nat.reduceBEq, Int.reduceLE, Int.reduceLT, Int.reduceToNat, Int.reduceMul, Int.reduceAdd, Int.reduceSub, Int.reduceNeg, Int.reduceEq, reduceCtorEq, Nat.reduceMod, hM, mix3_length hy hz])
      rw [show updV 0#32 (mix3 xs ys zs) = updV 0#32 xs ^^^ updV 0#32 ys ^^^ updV 0#32 zs from upd_mix xs ys zs hy.symm hz.symm]
      simp -implicitDefEqProofs only [go_sem, reduceIte, Nat.reduceAdd, Nat.reduceSub, Nat.reduceMul, Nat.reduceLT, Nat.reduceLeDiff, Nat.reduceEqDiff, Nat.reduceBEq, Int.reduceLE, Int.reduceLT, Int.reduceToNat, Int.reduceMul, Int.reduceAdd, Int.reduceSub, Int.reduceNeg, Int.reduceEq, reduceCtorEq, Nat.reduceMod, bne_self_eq_false]
      refine wcond_mk (fun h => ?_) (fun h => ?_)
      · have h : ((((updV 0#32 xs ^^^ updV 0#32 ys ^^^ updV 0#32 zs).toNat : Nat) : Int) != (((updV 0#32 xs ^^^ updV 0#32 ys ^^^ updV 0#32 zs).toNat : Nat) : Int)) = true := h
        rw [bne_self_eq_false] at h
        exact absurd h (by decide)
      · rw [Wk_skip, Rk_seq_n]
        exact mixes_tail xs hl n hn0 hn1 o0 o1 o2 o3 _ _ _
  · by_cases h1 : (xs.length : Int) > 1000
    · simp -implicitDefEqProofs only [go_sem, reduceIte, Nat.reduceAdd, Nat.reduceSub, Nat.reduceMul, Nat.reduceLT, Nat.reduceLeDiff, Nat.reduceEqDiff, Nat.reduceBEq, Int.reduceLE, Int.reduceLT, Int.reduceToNat, Int.reduceMul, Int.reduceAdd, Int.reduceSub, Int.reduceNeg, Int.reduceEq, reduceCtorEq, Nat.reduceMod, h1]
      refine call_k s_law02_alive ?_
      simp -implicitDefEqProofs only [go_sem, reduceIte, Nat.reduceAdd, Nat.reduceSub, Nat.reduceMul, Nat.reduceLT, Nat.reduceLeDiff, Nat.reduceEqDiff, Nat.reduceBEq, Int.reduceLE, Int.reduceLT, Int.reduceToNat, Int.reduceMul, Int.reduceAdd, Int.reduceSub, Int.reduceNeg, Int.reduceEq, reduceCtorEq, Nat.reduceMod]
    · by_cases h2 : ys.length = xs.length
      · have h3 : ((((zs.length : Nat) : Int) != ((xs.length : Nat) : Int))) = true := by
          rw [bne_iff_ne]; intro e; exact hg ⟨by omega, h2, by omega⟩
        simp -implicitDefEqProofs only [go_sem, reduceIte, Nat.reduceAdd, Nat.reduceSub, Nat.reduceMul, Nat.reduceLT, Nat.reduceLeDiff, Nat.reduceEqDiff, Nat.reduceBEq, Int.reduceLE, Int.reduceLT, Int.reduceToNat, Int.reduceMul, Int.reduceAdd, Int.reduceSub, Int.reduceNeg, Int.reduceEq, reduceCtorEq, Nat.reduceMod, h1, h2, bne_self_eq_false, h3]
        refine call_k s_law02_alive ?_
        simp -implicitDefEqProofs only [go_sem, reduceIte, Nat.reduceAdd, Nat.reduceSub, Nat.reduceMul, Nat.reduceLT, Nat.reduceLeDiff, Nat.reduceEqDiff, Nat.reduceBEq, Int.reduceLE, Int.reduceLT, Int.reduceToNat, Int.reduceMul, Int.reduceAdd, Int.reduceSub, Int.reduceNeg, Int.reduceEq, reduceCtorEq, Nat.reduceMod]
      · have h3 : ((((ys.length : Nat) : Int) != ((xs.length : Nat) : Int))) = true := by
          rw [bne_iff_ne]; intro e; exact h2 (by omega)
        simp -implicitDefEqProofs only [go_sem, reduceIte, Nat.reduceAdd, Nat.reduceSub, Nat.reduceMul, Nat.reduceLT, Nat.reduceLeDiff, Nat.reduceEqDiff, Nat.reduceBEq, Int.reduceLE, Int.reduceLT, Int.reduceToNat, Int.reduceMul, Int.reduceAdd, Int.reduceSub, Int.reduceNeg, Int.reduceEq, reduceCtorEq, Nat.reduceMod, h1, h3]
        refine call_k s_law02_alive ?_
        simp -implicitDefEqProofs only [go_sem, reduceIte, Nat.reduceAdd, Nat.reduceSub, Nat.reduceMul, Nat.reduceLT, Nat.reduceLeDiff, Nat.reduceEqDiff, Nat.reduceBEq, Int.reduceLE, Int.reduceLT, Int.reduceToNat, Int.reduceMul, Int.reduceAdd, Int.reduceSub, Int.reduceNeg, Int.reduceEq, reduceCtorEq, Nat.reduceMod]
end Go.Proofs.Ytadnjellfiafaaa.Pm
