/- disk: the chapter's examples. No law of Go's is stated here. -/
import Derived.Test.YtgiifhkcgigokaaPmGl
import Derived.Test.YtgiifhkcgigokaaPmKh
set_option linter.all false
set_option maxRecDepth 100000
set_option maxHeartbeats 2000000
namespace Go.Proofs.Ytgiifhkcgigokaa.Pm
open Go Go.RowKit

def givenD : Dev := ⟨[97#8, 98#8], [99#8, 100#8, 101#8], 10, false⟩
theorem givenD_small : givenD.small := ⟨by decide, by decide⟩
theorem s_law01_given : Spec Try.prog 41 [] [] (.t (.agg givenD.cells) true) := by
  refine spec_k (hold mixed) b_law01_given [(.agg givenD.cells, true)] ?_
  simp -implicitDefEqProofs only [go_sem, reduceIte, Nat.reduceAdd, Nat.reduceSub, Nat.reduceMul, Nat.reduceLT, Nat.reduceLeDiff, Nat.reduceEqDiff, Nat.reduceBEq, Int.reduceLE, Int.reduceLT, Int.reduceToNat, Int.reduceMul, Int.reduceAdd, Int.reduceSub, Int.reduceNeg, Int.reduceEq, reduceCtorEq, Nat.reduceMod]
  rfl
theorem areBytes_bT (bs : List (BitVec 8)) : areBytes (bT bs) = True := by
  refine eq_true fun e he => ?_
  simp only [bT, List.mem_map] at he
  obtain ⟨b, _, rfl⟩ := he
  exact ⟨_, rfl⟩
attribute [go_sem] areBytes_bT
def isB (d : Dev) (e : Int) (x y : ByteArray) : Bool := (e == 0) && (((strOf (bT d.syn)).toList == x.toList) && (((strOf (bT d.tail)).toList == y.toList) && (d.cap == 10)))
theorem s_law01_is (d : Dev) (e : Int) (x y : ByteArray) : Spec Try.prog 42 [.agg d.cells, .i .i64 e, .s x, .s y] [] (.t (.b (isB d e x y)) true) := by
  refine spec_k (hold mixed) b_law01_is [(.b (isB d e x y), true)] ?_
  by_cases c1 : (e == 0) = true
  · by_cases c2 : ((strOf (bT d.syn)).toList == x.toList) = true
    · by_cases c3 : ((strOf (bT d.tail)).toList == y.toList) = true
      · simp -implicitDefEqProofs only [go_sem, reduceIte, Nat.reduceAdd, Nat.reduceSub, Nat.reduceMul, Nat.reduceLT, Nat.reduceLeDiff, Nat.reduceEqDiff, Nat.reduceBEq, Int.reduceLE, Int.reduceLT, Int.reduceToNat, Int.reduceMul, Int.reduceAdd, Int.reduceSub, Int.reduceNeg, Int.reduceEq, reduceCtorEq, Nat.reduceMod, isB, c1, c2, c3]
      · have c3 : ((strOf (bT d.tail)).toList == y.toList) = false := by simpa using c3
        simp -implicitDefEqProofs only [go_sem, reduceIte, Nat.reduceAdd, Nat.reduceSub, Nat.reduceMul, Nat.reduceLT, Nat.reduceLeDiff, Nat.reduceEqDiff, Nat.reduceBEq, Int.reduceLE, Int.reduceLT, Int.reduceToNat, Int.reduceMul, Int.reduceAdd, Int.reduceSub, Int.reduceNeg, Int.reduceEq, reduceCtorEq, Nat.reduceMod, isB, c1, c2, c3]
    · have c2 : ((strOf (bT d.syn)).toList == x.toList) = false := by simpa using c2
      simp -implicitDefEqProofs only [go_sem, reduceIte, Nat.reduceAdd, Nat.reduceSub, Nat.reduceMul, Nat.reduceLT, Nat.reduceLeDiff, Nat.reduceEqDiff, Nat.reduceBEq, Int.reduceLE, Int.reduceLT, Int.reduceToNat, Int.reduceMul, Int.reduceAdd, Int.reduceSub, Int.reduceNeg, Int.reduceEq, reduceCtorEq, Nat.reduceMod, isB, c1, c2]
  · have c1 : (e == 0) = false := by simpa using c1
    simp -implicitDefEqProofs only [go_sem, reduceIte, Nat.reduceAdd, Nat.reduceSub, Nat.reduceMul, Nat.reduceLT, Nat.reduceLeDiff, Nat.reduceEqDiff, Nat.reduceBEq, Int.reduceLE, Int.reduceLT, Int.reduceToNat, Int.reduceMul, Int.reduceAdd, Int.reduceSub, Int.reduceNeg, Int.reduceEq, reduceCtorEq, Nat.reduceMod, isB, c1]
def aliveL : List DOp := [⟨1, [97#8, 98#8], 0⟩, ⟨2, [], 0⟩, ⟨1, [99#8, 100#8, 101#8], 0⟩]
theorem alive_run : Dev.run ⟨[], [], 10, false⟩ aliveL = (givenD, 3, 0) := by decide +kernel
def crashD : Dev := ⟨[97#8, 98#8, 99#8], [], 10, true⟩
def startD : Dev := ⟨[97#8, 98#8, 99#8], [], 10, false⟩
def truncD : Dev := ⟨[97#8], [], 10, false⟩
def dropD : Dev := ⟨[98#8], [99#8, 100#8, 101#8], 10, false⟩
theorem alive_read : givenD.rd 1 2 = ([98#8, 99#8], 0) := by decide +kernel
theorem alive_crash : givenD.crash 1 = (crashD, 0) := by decide +kernel
theorem alive_start : crashD.start = (startD, 0) := by decide +kernel
theorem alive_trunc : startD.trunc 1 = (truncD, 0) := by decide +kernel
theorem alive_app : givenD.app [49#8, 50#8, 51#8, 52#8, 53#8, 54#8] = (zeroD, 18) := by decide +kernel
theorem alive_drop : givenD.drop 1 = (dropD, 0) := by decide +kernel
theorem is1 : isB givenD 0 ⟨#[97, 98]⟩ ⟨#[99, 100, 101]⟩ = true := by decide +kernel
theorem is2 : isB crashD 0 ⟨#[97, 98, 99]⟩ ⟨#[]⟩ = true := by decide +kernel
theorem is3 : isB startD 0 ⟨#[97, 98, 99]⟩ ⟨#[]⟩ = true := by decide +kernel
theorem is4 : isB truncD 0 ⟨#[97]⟩ ⟨#[]⟩ = true := by decide +kernel
theorem is5 : isB dropD 0 ⟨#[98]⟩ ⟨#[99, 100, 101]⟩ = true := by decide +kernel
theorem s_law01_alive : Spec Try.prog 38 [] [] (.t (.b true) true) := by
  refine spec_k (hold mixed) b_law01_alive [(.b true, true)] ?_
  have hf : ∀ o ∈ aliveL, o.fine := fun o ho => by
    simp only [aliveL, List.mem_cons, List.not_mem_nil, or_false] at ho
    rcases ho with rfl | rfl | rfl <;> exact ⟨by decide, by decide, by decide⟩
  have c1 : Spec Try.prog 35 [.agg [.sl [], .sl [], .i .i64 10, .b false], .sl [[.i .u8 1, .sl [[T.i .u8 97], [T.i .u8 98]], .i .i64 0], [.i .u8 2, .sl [], .i .i64 0], [.i .u8 1, .sl [[T.i .u8 99], [T.i .u8 100], [T.i .u8 101]], .i .i64 0]]] [] (resV ((run3 (givenD, 3, 0)).map AV.ofT)) := by
    rw [← alive_run]
    exact s_disk_Run ⟨[], [], 10, false⟩ aliveL ⟨by decide, by decide⟩ hf (by decide)
  have c2 : Spec Try.prog 16 [.agg givenD.cells, .i .i64 1, .i .i64 2] [] (.tup [.t (.sl (bT [98#8, 99#8])) true, .t (.i .i64 0) true]) := by
    have h := s_disk_Read givenD 1 2 givenD_small (by decide) (by decide) (by decide) (by decide)
    rw [Dev.read_eq, alive_read] at h
    exact h
  have c3 : Spec Try.prog 30 [.agg givenD.cells, .i .i64 1] [] (resV ((opR (crashD, 0)).map AV.ofT)) := by
    rw [← alive_crash]
    exact s_disk_Crash givenD 1 givenD_small (by decide) (by decide)
  have c4 : Spec Try.prog 32 [.agg crashD.cells] [] (resV ((opR (startD, 0)).map AV.ofT)) := by
    rw [← alive_start]
    exact s_disk_Start crashD ⟨by decide, by decide⟩
  have c5 : Spec Try.prog 26 [.agg startD.cells, .i .i64 1] [] (resV ((opR (truncD, 0)).map AV.ofT)) := by
    rw [← alive_trunc]
    exact s_disk_Truncate startD 1 ⟨by decide, by decide⟩ (by decide) (by decide)
  have c6 : Spec Try.prog 22 [.agg givenD.cells, .sl [[T.i .u8 49], [T.i .u8 50], [T.i .u8 51], [T.i .u8 52], [T.i .u8 53], [T.i .u8 54]]] [] (resV ((opR (zeroD, 18)).map AV.ofT)) := by
    rw [← alive_app]
    exact s_disk_Append givenD [49#8, 50#8, 51#8, 52#8, 53#8, 54#8] givenD_small (by decide)
  have c7 : Spec Try.prog 28 [.agg givenD.cells, .i .i64 1] [] (resV ((opR (dropD, 0)).map AV.ofT)) := by
    rw [← alive_drop]
    exact s_disk_Drop givenD 1 givenD_small (by decide) (by decide)
  have l0 : ((([98#8, 99#8].length : Nat) : Int)) = 2 := rfl
  have hs : ((strOf (bT [98#8, 99#8])).toList == (⟨#[98, 99]⟩ : ByteArray).toList) = true := by decide +kernel
  have q2 : crashD.down = true := rfl
  have q3 : startD.down = false := rfl
  simp -implicitDefEqProofs only [go_sem, reduceIte, Nat.reduceAdd, Nat.reduceSub, Nat.reduceMul, Nat.reduceLT, Nat.reduceLeDiff, Nat.reduceEqDiff, Nat.reduceBEq, Int.reduceLE, Int.reduceLT, Int.reduceToNat, Int.reduceMul, Int.reduceAdd, Int.reduceSub, Int.reduceNeg, Int.reduceEq, reduceCtorEq, Nat.reduceMod, Int.reduceBNe, Int.reduceBEq, Int.reduceGT, Int.reduceGE, Int.reduceNe, Int.cast_ofNat_Int, Int.natCast_zero, Int.natCast_one, bne_self_eq_false, gt_iff_lt, ge_iff_le, Int.lt_irrefl, Int.le_refl]
  refine call_k c1 ?_
  simp -implicitDefEqProofs only [go_sem, reduceIte, Nat.reduceAdd, Nat.reduceSub, Nat.reduceMul, Nat.reduceLT, Nat.reduceLeDiff, Nat.reduceEqDiff, Nat.reduceBEq, Int.reduceLE, Int.reduceLT, Int.reduceToNat, Int.reduceMul, Int.reduceAdd, Int.reduceSub, Int.reduceNeg, Int.reduceEq, reduceCtorEq, Nat.reduceMod, Int.reduceBNe, Int.reduceBEq, Int.reduceGT, Int.reduceGE, Int.reduceNe, Int.cast_ofNat_Int, Int.natCast_zero, Int.natCast_one, bne_self_eq_false, gt_iff_lt, ge_iff_le, Int.lt_irrefl, Int.le_refl]
  refine call_k s_law01_given ?_
  simp -implicitDefEqProofs only [go_sem, reduceIte, Nat.reduceAdd, Nat.reduceSub, Nat.reduceMul, Nat.reduceLT, Nat.reduceLeDiff, Nat.reduceEqDiff, Nat.reduceBEq, Int.reduceLE, Int.reduceLT, Int.reduceToNat, Int.reduceMul, Int.reduceAdd, Int.reduceSub, Int.reduceNeg, Int.reduceEq, reduceCtorEq, Nat.reduceMod, Int.reduceBNe, Int.reduceBEq, Int.reduceGT, Int.reduceGE, Int.reduceNe, Int.cast_ofNat_Int, Int.natCast_zero, Int.natCast_one, bne_self_eq_false, gt_iff_lt, ge_iff_le, Int.lt_irrefl, Int.le_refl]
  refine call_k c2 ?_
  simp -implicitDefEqProofs only [go_sem, reduceIte, Nat.reduceAdd, Nat.reduceSub, Nat.reduceMul, Nat.reduceLT, Nat.reduceLeDiff, Nat.reduceEqDiff, Nat.reduceBEq, Int.reduceLE, Int.reduceLT, Int.reduceToNat, Int.reduceMul, Int.reduceAdd, Int.reduceSub, Int.reduceNeg, Int.reduceEq, reduceCtorEq, Nat.reduceMod, Int.reduceBNe, Int.reduceBEq, Int.reduceGT, Int.reduceGE, Int.reduceNe, Int.cast_ofNat_Int, Int.natCast_zero, Int.natCast_one, bne_self_eq_false, gt_iff_lt, ge_iff_le, Int.lt_irrefl, Int.le_refl]
  refine call_k s_law01_given ?_
  simp -implicitDefEqProofs only [go_sem, reduceIte, Nat.reduceAdd, Nat.reduceSub, Nat.reduceMul, Nat.reduceLT, Nat.reduceLeDiff, Nat.reduceEqDiff, Nat.reduceBEq, Int.reduceLE, Int.reduceLT, Int.reduceToNat, Int.reduceMul, Int.reduceAdd, Int.reduceSub, Int.reduceNeg, Int.reduceEq, reduceCtorEq, Nat.reduceMod, Int.reduceBNe, Int.reduceBEq, Int.reduceGT, Int.reduceGE, Int.reduceNe, Int.cast_ofNat_Int, Int.natCast_zero, Int.natCast_one, bne_self_eq_false, gt_iff_lt, ge_iff_le, Int.lt_irrefl, Int.le_refl]
  refine call_k c3 ?_
  simp -implicitDefEqProofs only [go_sem, reduceIte, Nat.reduceAdd, Nat.reduceSub, Nat.reduceMul, Nat.reduceLT, Nat.reduceLeDiff, Nat.reduceEqDiff, Nat.reduceBEq, Int.reduceLE, Int.reduceLT, Int.reduceToNat, Int.reduceMul, Int.reduceAdd, Int.reduceSub, Int.reduceNeg, Int.reduceEq, reduceCtorEq, Nat.reduceMod, Int.reduceBNe, Int.reduceBEq, Int.reduceGT, Int.reduceGE, Int.reduceNe, Int.cast_ofNat_Int, Int.natCast_zero, Int.natCast_one, bne_self_eq_false, gt_iff_lt, ge_iff_le, Int.lt_irrefl, Int.le_refl]
  refine call_k c4 ?_
  simp -implicitDefEqProofs only [go_sem, reduceIte, Nat.reduceAdd, Nat.reduceSub, Nat.reduceMul, Nat.reduceLT, Nat.reduceLeDiff, Nat.reduceEqDiff, Nat.reduceBEq, Int.reduceLE, Int.reduceLT, Int.reduceToNat, Int.reduceMul, Int.reduceAdd, Int.reduceSub, Int.reduceNeg, Int.reduceEq, reduceCtorEq, Nat.reduceMod, Int.reduceBNe, Int.reduceBEq, Int.reduceGT, Int.reduceGE, Int.reduceNe, Int.cast_ofNat_Int, Int.natCast_zero, Int.natCast_one, bne_self_eq_false, gt_iff_lt, ge_iff_le, Int.lt_irrefl, Int.le_refl]
  refine call_k c5 ?_
  simp -implicitDefEqProofs only [go_sem, reduceIte, Nat.reduceAdd, Nat.reduceSub, Nat.reduceMul, Nat.reduceLT, Nat.reduceLeDiff, Nat.reduceEqDiff, Nat.reduceBEq, Int.reduceLE, Int.reduceLT, Int.reduceToNat, Int.reduceMul, Int.reduceAdd, Int.reduceSub, Int.reduceNeg, Int.reduceEq, reduceCtorEq, Nat.reduceMod, Int.reduceBNe, Int.reduceBEq, Int.reduceGT, Int.reduceGE, Int.reduceNe, Int.cast_ofNat_Int, Int.natCast_zero, Int.natCast_one, bne_self_eq_false, gt_iff_lt, ge_iff_le, Int.lt_irrefl, Int.le_refl]
  refine call_k s_law01_given ?_
  simp -implicitDefEqProofs only [go_sem, reduceIte, Nat.reduceAdd, Nat.reduceSub, Nat.reduceMul, Nat.reduceLT, Nat.reduceLeDiff, Nat.reduceEqDiff, Nat.reduceBEq, Int.reduceLE, Int.reduceLT, Int.reduceToNat, Int.reduceMul, Int.reduceAdd, Int.reduceSub, Int.reduceNeg, Int.reduceEq, reduceCtorEq, Nat.reduceMod, Int.reduceBNe, Int.reduceBEq, Int.reduceGT, Int.reduceGE, Int.reduceNe, Int.cast_ofNat_Int, Int.natCast_zero, Int.natCast_one, bne_self_eq_false, gt_iff_lt, ge_iff_le, Int.lt_irrefl, Int.le_refl]
  refine call_k c6 ?_
  simp -implicitDefEqProofs only [go_sem, reduceIte, Nat.reduceAdd, Nat.reduceSub, Nat.reduceMul, Nat.reduceLT, Nat.reduceLeDiff, Nat.reduceEqDiff, Nat.reduceBEq, Int.reduceLE, Int.reduceLT, Int.reduceToNat, Int.reduceMul, Int.reduceAdd, Int.reduceSub, Int.reduceNeg, Int.reduceEq, reduceCtorEq, Nat.reduceMod, Int.reduceBNe, Int.reduceBEq, Int.reduceGT, Int.reduceGE, Int.reduceNe, Int.cast_ofNat_Int, Int.natCast_zero, Int.natCast_one, bne_self_eq_false, gt_iff_lt, ge_iff_le, Int.lt_irrefl, Int.le_refl]
  refine call_k s_law01_given ?_
  simp -implicitDefEqProofs only [go_sem, reduceIte, Nat.reduceAdd, Nat.reduceSub, Nat.reduceMul, Nat.reduceLT, Nat.reduceLeDiff, Nat.reduceEqDiff, Nat.reduceBEq, Int.reduceLE, Int.reduceLT, Int.reduceToNat, Int.reduceMul, Int.reduceAdd, Int.reduceSub, Int.reduceNeg, Int.reduceEq, reduceCtorEq, Nat.reduceMod, Int.reduceBNe, Int.reduceBEq, Int.reduceGT, Int.reduceGE, Int.reduceNe, Int.cast_ofNat_Int, Int.natCast_zero, Int.natCast_one, bne_self_eq_false, gt_iff_lt, ge_iff_le, Int.lt_irrefl, Int.le_refl]
  refine call_k c7 ?_
  simp -implicitDefEqProofs only [go_sem, reduceIte, Nat.reduceAdd, Nat.reduceSub, Nat.reduceMul, Nat.reduceLT, Nat.reduceLeDiff, Nat.reduceEqDiff, Nat.reduceBEq, Int.reduceLE, Int.reduceLT, Int.reduceToNat, Int.reduceMul, Int.reduceAdd, Int.reduceSub, Int.reduceNeg, Int.reduceEq, reduceCtorEq, Nat.reduceMod, Int.reduceBNe, Int.reduceBEq, Int.reduceGT, Int.reduceGE, Int.reduceNe, Int.cast_ofNat_Int, Int.natCast_zero, Int.natCast_one, bne_self_eq_false, gt_iff_lt, ge_iff_le, Int.lt_irrefl, Int.le_refl]
  refine call_k (s_law01_is givenD 0 ⟨#[97, 98]⟩ ⟨#[99, 100, 101]⟩) ?_
  simp -implicitDefEqProofs only [go_sem, reduceIte, Nat.reduceAdd, Nat.reduceSub, Nat.reduceMul, Nat.reduceLT, Nat.reduceLeDiff, Nat.reduceEqDiff, Nat.reduceBEq, Int.reduceLE, Int.reduceLT, Int.reduceToNat, Int.reduceMul, Int.reduceAdd, Int.reduceSub, Int.reduceNeg, Int.reduceEq, reduceCtorEq, Nat.reduceMod, Int.reduceBNe, Int.reduceBEq, Int.reduceGT, Int.reduceGE, Int.reduceNe, Int.cast_ofNat_Int, Int.natCast_zero, Int.natCast_one, bne_self_eq_false, gt_iff_lt, ge_iff_le, Int.lt_irrefl, Int.le_refl, is1, hs]
  refine call_k (s_law01_is crashD 0 ⟨#[97, 98, 99]⟩ ⟨#[]⟩) ?_
  simp -implicitDefEqProofs only [go_sem, reduceIte, Nat.reduceAdd, Nat.reduceSub, Nat.reduceMul, Nat.reduceLT, Nat.reduceLeDiff, Nat.reduceEqDiff, Nat.reduceBEq, Int.reduceLE, Int.reduceLT, Int.reduceToNat, Int.reduceMul, Int.reduceAdd, Int.reduceSub, Int.reduceNeg, Int.reduceEq, reduceCtorEq, Nat.reduceMod, Int.reduceBNe, Int.reduceBEq, Int.reduceGT, Int.reduceGE, Int.reduceNe, Int.cast_ofNat_Int, Int.natCast_zero, Int.natCast_one, bne_self_eq_false, gt_iff_lt, ge_iff_le, Int.lt_irrefl, Int.le_refl, is2, q2]
  refine call_k (s_law01_is startD 0 ⟨#[97, 98, 99]⟩ ⟨#[]⟩) ?_
  simp -implicitDefEqProofs only [go_sem, reduceIte, Nat.reduceAdd, Nat.reduceSub, Nat.reduceMul, Nat.reduceLT, Nat.reduceLeDiff, Nat.reduceEqDiff, Nat.reduceBEq, Int.reduceLE, Int.reduceLT, Int.reduceToNat, Int.reduceMul, Int.reduceAdd, Int.reduceSub, Int.reduceNeg, Int.reduceEq, reduceCtorEq, Nat.reduceMod, Int.reduceBNe, Int.reduceBEq, Int.reduceGT, Int.reduceGE, Int.reduceNe, Int.cast_ofNat_Int, Int.natCast_zero, Int.natCast_one, bne_self_eq_false, gt_iff_lt, ge_iff_le, Int.lt_irrefl, Int.le_refl, is3, q3]
  refine call_k (s_law01_is truncD 0 ⟨#[97]⟩ ⟨#[]⟩) ?_
  simp -implicitDefEqProofs only [go_sem, reduceIte, Nat.reduceAdd, Nat.reduceSub, Nat.reduceMul, Nat.reduceLT, Nat.reduceLeDiff, Nat.reduceEqDiff, Nat.reduceBEq, Int.reduceLE, Int.reduceLT, Int.reduceToNat, Int.reduceMul, Int.reduceAdd, Int.reduceSub, Int.reduceNeg, Int.reduceEq, reduceCtorEq, Nat.reduceMod, Int.reduceBNe, Int.reduceBEq, Int.reduceGT, Int.reduceGE, Int.reduceNe, Int.cast_ofNat_Int, Int.natCast_zero, Int.natCast_one, bne_self_eq_false, gt_iff_lt, ge_iff_le, Int.lt_irrefl, Int.le_refl, is4]
  refine call_k (s_law01_is dropD 0 ⟨#[98]⟩ ⟨#[99, 100, 101]⟩) ?_
  simp -implicitDefEqProofs only [go_sem, reduceIte, Nat.reduceAdd, Nat.reduceSub, Nat.reduceMul, Nat.reduceLT, Nat.reduceLeDiff, Nat.reduceEqDiff, Nat.reduceBEq, Int.reduceLE, Int.reduceLT, Int.reduceToNat, Int.reduceMul, Int.reduceAdd, Int.reduceSub, Int.reduceNeg, Int.reduceEq, reduceCtorEq, Nat.reduceMod, Int.reduceBNe, Int.reduceBEq, Int.reduceGT, Int.reduceGE, Int.reduceNe, Int.cast_ofNat_Int, Int.natCast_zero, Int.natCast_one, bne_self_eq_false, gt_iff_lt, ge_iff_le, Int.lt_irrefl, Int.le_refl, is5]
end Go.Proofs.Ytgiifhkcgigokaa.Pm
