/- crc: the tail. No law of Go's is stated here. -/
import Derived.Test.YtadnjellfiafaaaPmCw
set_option linter.all false
set_option maxRecDepth 100000
namespace Go.Proofs.Ytadnjellfiafaaa.Pm
open Go Go.RowKit

def u8T (b : BitVec 8) : T := .i .u8 b.toNat
def zero4 : List AV := [.t (.i .u8 0) true, .t (.i .u8 0) true, .t (.i .u8 0) true, .t (.i .u8 0) true]
/-- The tail, so far. -/
def out4 (r : BitVec 32) : Nat → List AV
  | 0 => zero4
  | 1 => [.t (.i .u8 (byteAt r 0).toNat) true, .t (.i .u8 0) true, .t (.i .u8 0) true, .t (.i .u8 0) true]
  | 2 => [.t (.i .u8 (byteAt r 0).toNat) true, .t (.i .u8 (byteAt r 1).toNat) true, .t (.i .u8 0) true, .t (.i .u8 0) true]
  | 3 => [.t (.i .u8 (byteAt r 0).toNat) true, .t (.i .u8 (byteAt r 1).toNat) true, .t (.i .u8 (byteAt r 2).toNat) true, .t (.i .u8 0) true]
  | _ => [.t (.i .u8 (byteAt r 0).toNat) true, .t (.i .u8 (byteAt r 1).toNat) true, .t (.i .u8 (byteAt r 2).toNat) true, .t (.i .u8 (byteAt r 3).toNat) true]

theorem w0 : IntKind.i64.wrap 0 = 0 := by decide
theorem w1 : IntKind.i64.wrap 1 = 1 := by decide
theorem w2 : IntKind.i64.wrap 2 = 2 := by decide
theorem w3 : IntKind.i64.wrap 3 = 3 := by decide
theorem w4 : IntKind.i64.wrap 4 = 4 := by decide
theorem w8 : IntKind.i64.wrap 8 = 8 := by decide
theorem w16 : IntKind.i64.wrap 16 = 16 := by decide
theorem w24 : IntKind.i64.wrap 24 = 24 := by decide
theorem m0 : min 0 32 = 0 := by decide
theorem m8 : min 8 32 = 8 := by decide
theorem m16 : min 16 32 = 16 := by decide
theorem m24 : min 24 32 = 24 := by decide
theorem s_crc_Tail (bs : List (BitVec 8)) (want : BitVec 32) (hl : bs.length ≤ 20000) : Spec Try.prog 28 [.sl (bT bs), .i .u32 want.toNat] [] (.tup [.t (.agg ((tailB bs want).map u8T)) true, .t (.i .i64 0) true]) := by
  refine spec_k (hold mixed) b_crc_Tail [(.agg ((tailB bs want).map u8T), true), (.i .i64 0, true)] ?_
  have h1 : ((bs.length : Int) > 20000) = False := eq_false (by omega)
  simp -implicitDefEqProofs only [go_sem, reduceIte, Nat.reduceAdd, Nat.reduceSub, Nat.reduceMul, Nat.reduceLT, Nat.reduceLeDiff, Nat.reduceEqDiff, Nat.reduceBEq, Int.reduceLE, Int.reduceLT, Int.reduceToNat, Int.reduceMul, Int.reduceAdd, Int.reduceSub, Int.reduceNeg, Int.reduceEq, reduceCtorEq, Nat.reduceMod, h1]
  refine loop_l (α := Nat) (fun k => ⟨tmL [(0, .t (.sl (bT bs)) false), (4, .ptr 0 0), (6, .fn 52 []), (7, .t (.i .u32 (itn backL k (~~~want)).toNat) true), (16, .t (.i .i64 k) true)], [.var zero4]⟩) (fun k => 32 - k) (fun k => k ≤ 32) 0 (by simp -implicitDefEqProofs only [go_sem, reduceIte, Nat.reduceAdd, Nat.reduceSub, Nat.reduceMul, Nat.reduceLT, Nat.reduceLeDiff, Nat.reduceEqDiff, Nat.reduceBEq, Int.reduceLE, Int.reduceLT, Int.reduceToNat, Int.reduceMul, Int.reduceAdd, Int.reduceSub, Int.reduceNeg, Int.reduceEq, reduceCtorEq, Nat.reduceMod]; rfl) (by omega) ?_
  intro k hk R hR
  simp -implicitDefEqProofs only [go_sem, reduceIte, Nat.reduceAdd, Nat.reduceSub, Nat.reduceMul, Nat.reduceLT, Nat.reduceLeDiff, Nat.reduceEqDiff, Nat.reduceBEq, Int.reduceLE, Int.reduceLT, Int.reduceToNat, Int.reduceMul, Int.reduceAdd, Int.reduceSub, Int.reduceNeg, Int.reduceEq, reduceCtorEq, Nat.reduceMod]
  refine wcond_mk (fun h => ?_) (fun h => ?_)
  · have hk' : k < 32 := by have := of_decide_eq_true h; omega
    simp -implicitDefEqProofs only [go_sem, reduceIte, Nat.reduceAdd, Nat.reduceSub, Nat.reduceMul, Nat.reduceLT, Nat.reduceLeDiff, Nat.reduceEqDiff, Nat.reduceBEq, Int.reduceLE, Int.reduceLT, Int.reduceToNat, Int.reduceMul, Int.reduceAdd, Int.reduceSub, Int.reduceNeg, Int.reduceEq, reduceCtorEq, Nat.reduceMod]
    refine call_k (s_crc_Tail_1 (itn backL k (~~~want))) ?_
    simp -implicitDefEqProofs only [go_sem, reduceIte, Nat.reduceAdd, Nat.reduceSub, Nat.reduceMul, Nat.reduceLT, Nat.reduceLeDiff, Nat.reduceEqDiff, Nat.reduceBEq, Int.reduceLE, Int.reduceLT, Int.reduceToNat, Int.reduceMul, Int.reduceAdd, Int.reduceSub, Int.reduceNeg, Int.reduceEq, reduceCtorEq, Nat.reduceMod]
    refine hR (k + 1) _ ?_ (by omega) (by omega)
    simp -implicitDefEqProofs only [go_sem, reduceIte, Nat.reduceAdd, Nat.reduceSub, Nat.reduceMul, Nat.reduceLT, Nat.reduceLeDiff, Nat.reduceEqDiff, Nat.reduceBEq, Int.reduceLE, Int.reduceLT, Int.reduceToNat, Int.reduceMul, Int.reduceAdd, Int.reduceSub, Int.reduceNeg, Int.reduceEq, reduceCtorEq, Nat.reduceMod, wrap_i64_id (show -9223372036854775808 ≤ (k : Int) + 1 by omega) (by omega), Int.natCast_add, itn_succ']
    rfl
  · have hk' : ¬ k < 32 := by have := of_decide_eq_false h; omega
    obtain rfl : k = 32 := by omega
    simp -implicitDefEqProofs only [go_sem, reduceIte, Nat.reduceAdd, Nat.reduceSub, Nat.reduceMul, Nat.reduceLT, Nat.reduceLeDiff, Nat.reduceEqDiff, Nat.reduceBEq, Int.reduceLE, Int.reduceLT, Int.reduceToNat, Int.reduceMul, Int.reduceAdd, Int.reduceSub, Int.reduceNeg, Int.reduceEq, reduceCtorEq, Nat.reduceMod]
    refine call_k (s_crc_run (~~~0#32) bs (by omega)) ?_ (by simp -implicitDefEqProofs only [go_sem, reduceIte, Nat.reduceAdd, Nat.reduceSub, Nat.reduceMul, Nat.reduceLT, Nat.reduceLeDiff, Nat.reduceEqDiff, Nat.reduceBEq, Int.reduceLE, Int.reduceLT, Int.reduceToNat, Int.reduceMul, Int.reduceAdd, Int.reduceSub, Int.reduceNeg, Int.reduceEq, reduceCtorEq, Nat.reduceMod]; rfl)
    simp -implicitDefEqProofs only [go_sem, reduceIte, Nat.reduceAdd, Nat.reduceSub, Nat.reduceMul, Nat.reduceLT, Nat.reduceLeDiff, Nat.reduceEqDiff, Nat.reduceBEq, Int.reduceLE, Int.reduceLT, Int.reduceToNat, Int.reduceMul, Int.reduceAdd, Int.reduceSub, Int.reduceNeg, Int.reduceEq, reduceCtorEq, Nat.reduceMod]
    refine loop_l (α := Nat) (fun k => ⟨tmL [(4, .ptr 0 0), (7, .t (.i .u32 (tailV bs want).toNat) true), (8, .ptr 2 0), (27, .t (.i .i64 k) true)], [.var zero4, .row 0 1 [[.sl (bT bs)]] false, .var (out4 (tailV bs want) k)]⟩) (fun k => 4 - k) (fun k => k ≤ 4) 0 (by simp -implicitDefEqProofs only [go_sem, reduceIte, Nat.reduceAdd, Nat.reduceSub, Nat.reduceMul, Nat.reduceLT, Nat.reduceLeDiff, Nat.reduceEqDiff, Nat.reduceBEq, Int.reduceLE, Int.reduceLT, Int.reduceToNat, Int.reduceMul, Int.reduceAdd, Int.reduceSub, Int.reduceNeg, Int.reduceEq, reduceCtorEq, Nat.reduceMod]; rfl) (by omega) ?_
    intro k hk R hR
    obtain rfl | rfl | rfl | rfl | rfl : k = 0 ∨ k = 1 ∨ k = 2 ∨ k = 3 ∨ k = 4 := by omega
    all_goals simp -implicitDefEqProofs only [go_sem, reduceIte, Nat.reduceAdd, Nat.reduceSub, Nat.reduceMul, Nat.reduceLT, Nat.reduceLeDiff, Nat.reduceEqDiff, Nat.reduceBEq, Int.reduceLE, Int.reduceLT, Int.reduceToNat, Int.reduceMul, Int.reduceAdd, Int.reduceSub, Int.reduceNeg, Int.reduceEq, reduceCtorEq, Nat.reduceMod, out4, zero4, Int.cast_ofNat_Int, Int.natCast_zero, Int.natCast_one, w0, w1, w2, w3, w4, w8, w16, w24, m0, m8, m16, m24, AV.one, T.one]
    · refine hR 1 _ ?_ (by omega) (by omega)
      simp -implicitDefEqProofs only [go_sem, reduceIte, Nat.reduceAdd, Nat.reduceSub, Nat.reduceMul, Nat.reduceLT, Nat.reduceLeDiff, Nat.reduceEqDiff, Nat.reduceBEq, Int.reduceLE, Int.reduceLT, Int.reduceToNat, Int.reduceMul, Int.reduceAdd, Int.reduceSub, Int.reduceNeg, Int.reduceEq, reduceCtorEq, Nat.reduceMod]
      rfl
    · refine hR 2 _ ?_ (by omega) (by omega)
      simp -implicitDefEqProofs only [go_sem, reduceIte, Nat.reduceAdd, Nat.reduceSub, Nat.reduceMul, Nat.reduceLT, Nat.reduceLeDiff, Nat.reduceEqDiff, Nat.reduceBEq, Int.reduceLE, Int.reduceLT, Int.reduceToNat, Int.reduceMul, Int.reduceAdd, Int.reduceSub, Int.reduceNeg, Int.reduceEq, reduceCtorEq, Nat.reduceMod]
      rfl
    · refine hR 3 _ ?_ (by omega) (by omega)
      simp -implicitDefEqProofs only [go_sem, reduceIte, Nat.reduceAdd, Nat.reduceSub, Nat.reduceMul, Nat.reduceLT, Nat.reduceLeDiff, Nat.reduceEqDiff, Nat.reduceBEq, Int.reduceLE, Int.reduceLT, Int.reduceToNat, Int.reduceMul, Int.reduceAdd, Int.reduceSub, Int.reduceNeg, Int.reduceEq, reduceCtorEq, Nat.reduceMod]
      rfl
    · refine hR 4 _ ?_ (by omega) (by omega)
      simp -implicitDefEqProofs only [go_sem, reduceIte, Nat.reduceAdd, Nat.reduceSub, Nat.reduceMul, Nat.reduceLT, Nat.reduceLeDiff, Nat.reduceEqDiff, Nat.reduceBEq, Int.reduceLE, Int.reduceLT, Int.reduceToNat, Int.reduceMul, Int.reduceAdd, Int.reduceSub, Int.reduceNeg, Int.reduceEq, reduceCtorEq, Nat.reduceMod]
      rfl
    · rfl
end Go.Proofs.Ytadnjellfiafaaa.Pm
