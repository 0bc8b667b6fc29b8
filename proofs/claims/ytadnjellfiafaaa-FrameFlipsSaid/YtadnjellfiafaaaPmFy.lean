/- frame: the statement of changed bytes. -/
import Derived.Test.YtadnjellfiafaaaPmFx
import Derived.Test.YtadnjellfiafaaaPmFr
set_option linter.all false
set_option maxRecDepth 100000
namespace Go.Proofs.Ytadnjellfiafaaa.Pm
open Go Go.RowKit

theorem xor_ne {x y : BitVec 8} (h : y ≠ 0#8) : x ^^^ y ≠ x := fun e => h (by
  have := congrArg (fun z => x ^^^ z) e
  simpa only [← BitVec.xor_assoc, BitVec.xor_self, BitVec.zero_xor] using this)
theorem law_FrameFlips (l : List Rec) (a w : Int) (y : BitVec 8) (hl0 : l.length ≤ 140737488355328) (ha1 : -9223372036854775808 ≤ a) (ha2 : a ≤ 9223372036854775807) (hw1 : -9223372036854775808 ≤ w) (hw2 : w ≤ 9223372036854775807) : Spec Try.prog 12 [.sl (recsT l), .i .i64 a, .i .i64 w, .i .u8 y.toNat] [] (.t (.b true) true) := by
  refine spec_k (hold mixed) b_law03_FrameFlips [(.b true, true)] ?_
  simp -implicitDefEqProofs only [go_sem, reduceIte, Nat.reduceAdd, Nat.reduceSub, Nat.reduceMul, Nat.reduceLT, Nat.reduceLeDiff, Nat.reduceEqDiff, Nat.reduceBEq, Int.reduceLE, Int.reduceLT, Int.reduceToNat, Int.reduceMul, Int.reduceAdd, Int.reduceSub, Int.reduceNeg, Int.reduceEq, reduceCtorEq, Nat.reduceMod]
  refine call_k (s_ref03_Great l hl0) ?_
  cases hG : (l.any (fun r => decide (1100 < r.data.length)) || decide (40 < l.length)) with
  | true =>
    simp -implicitDefEqProofs only [go_sem, reduceIte, Nat.reduceAdd, Nat.reduceSub, Nat.reduceMul, Nat.reduceLT, Nat.reduceLeDiff, Nat.reduceEqDiff, Nat.reduceBEq, Int.reduceLE, Int.reduceLT, Int.reduceToNat, Int.reduceMul, Int.reduceAdd, Int.reduceSub, Int.reduceNeg, Int.reduceEq, reduceCtorEq, Nat.reduceMod, Int.reduceBNe, Int.reduceBEq, Int.reduceGT, Int.reduceGE, Int.reduceNe, Int.cast_ofNat_Int, Int.natCast_zero, Int.natCast_one, bne_self_eq_false, gt_iff_lt, ge_iff_le, Int.lt_irrefl, Int.le_refl, hG]
    refine call_k s_law03_alive ?_ (by simp -implicitDefEqProofs only [go_sem, reduceIte, Nat.reduceAdd, Nat.reduceSub, Nat.reduceMul, Nat.reduceLT, Nat.reduceLeDiff, Nat.reduceEqDiff, Nat.reduceBEq, Int.reduceLE, Int.reduceLT, Int.reduceToNat, Int.reduceMul, Int.reduceAdd, Int.reduceSub, Int.reduceNeg, Int.reduceEq, reduceCtorEq, Nat.reduceMod])
    simp -implicitDefEqProofs only [go_sem, reduceIte, Nat.reduceAdd, Nat.reduceSub, Nat.reduceMul, Nat.reduceLT, Nat.reduceLeDiff, Nat.reduceEqDiff, Nat.reduceBEq, Int.reduceLE, Int.reduceLT, Int.reduceToNat, Int.reduceMul, Int.reduceAdd, Int.reduceSub, Int.reduceNeg, Int.reduceEq, reduceCtorEq, Nat.reduceMod]
  | false =>
    have hG' : (l.any (fun r => decide (1100 < r.data.length)) || decide (40 < l.length)) = false := hG
    simp only [Bool.or_eq_false_iff, decide_eq_false_iff_not, List.any_eq_false, decide_eq_true_eq] at hG
    simp -implicitDefEqProofs only [go_sem, reduceIte, Nat.reduceAdd, Nat.reduceSub, Nat.reduceMul, Nat.reduceLT, Nat.reduceLeDiff, Nat.reduceEqDiff, Nat.reduceBEq, Int.reduceLE, Int.reduceLT, Int.reduceToNat, Int.reduceMul, Int.reduceAdd, Int.reduceSub, Int.reduceNeg, Int.reduceEq, reduceCtorEq, Nat.reduceMod, Int.reduceBNe, Int.reduceBEq, Int.reduceGT, Int.reduceGE, Int.reduceNe, Int.cast_ofNat_Int, Int.natCast_zero, Int.natCast_one, bne_self_eq_false, gt_iff_lt, ge_iff_le, Int.lt_irrefl, Int.le_refl, hG']
    refine call_k (s_ref03_Following l (by omega)) ?_
    cases hF : follows l with
    | false =>
      simp -implicitDefEqProofs only [go_sem, reduceIte, Nat.reduceAdd, Nat.reduceSub, Nat.reduceMul, Nat.reduceLT, Nat.reduceLeDiff, Nat.reduceEqDiff, Nat.reduceBEq, Int.reduceLE, Int.reduceLT, Int.reduceToNat, Int.reduceMul, Int.reduceAdd, Int.reduceSub, Int.reduceNeg, Int.reduceEq, reduceCtorEq, Nat.reduceMod, Int.reduceBNe, Int.reduceBEq, Int.reduceGT, Int.reduceGE, Int.reduceNe, Int.cast_ofNat_Int, Int.natCast_zero, Int.natCast_one, bne_self_eq_false, gt_iff_lt, ge_iff_le, Int.lt_irrefl, Int.le_refl, hF]
      refine call_k s_law03_alive ?_ (by simp -implicitDefEqProofs only [go_sem, reduceIte, Nat.reduceAdd, Nat.reduceSub, Nat.reduceMul, Nat.reduceLT, Nat.reduceLeDiff, Nat.reduceEqDiff, Nat.reduceBEq, Int.reduceLE, Int.reduceLT, Int.reduceToNat, Int.reduceMul, Int.reduceAdd, Int.reduceSub, Int.reduceNeg, Int.reduceEq, reduceCtorEq, Nat.reduceMod])
      simp -implicitDefEqProofs only [go_sem, reduceIte, Nat.reduceAdd, Nat.reduceSub, Nat.reduceMul, Nat.reduceLT, Nat.reduceLeDiff, Nat.reduceEqDiff, Nat.reduceBEq, Int.reduceLE, Int.reduceLT, Int.reduceToNat, Int.reduceMul, Int.reduceAdd, Int.reduceSub, Int.reduceNeg, Int.reduceEq, reduceCtorEq, Nat.reduceMod]
    | true =>
      by_cases h1 : a < 0
      · simp -implicitDefEqProofs only [go_sem, reduceIte, Nat.reduceAdd, Nat.reduceSub, Nat.reduceMul, Nat.reduceLT, Nat.reduceLeDiff, Nat.reduceEqDiff, Nat.reduceBEq, Int.reduceLE, Int.reduceLT, Int.reduceToNat, Int.reduceMul, Int.reduceAdd, Int.reduceSub, Int.reduceNeg, Int.reduceEq, reduceCtorEq, Nat.reduceMod, Int.reduceBNe, Int.reduceBEq, Int.reduceGT, Int.reduceGE, Int.reduceNe, Int.cast_ofNat_Int, Int.natCast_zero, Int.natCast_one, bne_self_eq_false, gt_iff_lt, ge_iff_le, Int.lt_irrefl, Int.le_refl, hF, h1]
        refine call_k s_law03_alive ?_ (by simp -implicitDefEqProofs only [go_sem, reduceIte, Nat.reduceAdd, Nat.reduceSub, Nat.reduceMul, Nat.reduceLT, Nat.reduceLeDiff, Nat.reduceEqDiff, Nat.reduceBEq, Int.reduceLE, Int.reduceLT, Int.reduceToNat, Int.reduceMul, Int.reduceAdd, Int.reduceSub, Int.reduceNeg, Int.reduceEq, reduceCtorEq, Nat.reduceMod])
        simp -implicitDefEqProofs only [go_sem, reduceIte, Nat.reduceAdd, Nat.reduceSub, Nat.reduceMul, Nat.reduceLT, Nat.reduceLeDiff, Nat.reduceEqDiff, Nat.reduceBEq, Int.reduceLE, Int.reduceLT, Int.reduceToNat, Int.reduceMul, Int.reduceAdd, Int.reduceSub, Int.reduceNeg, Int.reduceEq, reduceCtorEq, Nat.reduceMod]
      by_cases h2 : (l.length : Int) ≤ a
      · simp -implicitDefEqProofs only [go_sem, reduceIte, Nat.reduceAdd, Nat.reduceSub, Nat.reduceMul, Nat.reduceLT, Nat.reduceLeDiff, Nat.reduceEqDiff, Nat.reduceBEq, Int.reduceLE, Int.reduceLT, Int.reduceToNat, Int.reduceMul, Int.reduceAdd, Int.reduceSub, Int.reduceNeg, Int.reduceEq, reduceCtorEq, Nat.reduceMod, Int.reduceBNe, Int.reduceBEq, Int.reduceGT, Int.reduceGE, Int.reduceNe, Int.cast_ofNat_Int, Int.natCast_zero, Int.natCast_one, bne_self_eq_false, gt_iff_lt, ge_iff_le, Int.lt_irrefl, Int.le_refl, hF, h1, recsT_length, h2]
        refine call_k s_law03_alive ?_ (by simp -implicitDefEqProofs only [go_sem, reduceIte, Nat.reduceAdd, Nat.reduceSub, Nat.reduceMul, Nat.reduceLT, Nat.reduceLeDiff, Nat.reduceEqDiff, Nat.reduceBEq, Int.reduceLE, Int.reduceLT, Int.reduceToNat, Int.reduceMul, Int.reduceAdd, Int.reduceSub, Int.reduceNeg, Int.reduceEq, reduceCtorEq, Nat.reduceMod])
        simp -implicitDefEqProofs only [go_sem, reduceIte, Nat.reduceAdd, Nat.reduceSub, Nat.reduceMul, Nat.reduceLT, Nat.reduceLeDiff, Nat.reduceEqDiff, Nat.reduceBEq, Int.reduceLE, Int.reduceLT, Int.reduceToNat, Int.reduceMul, Int.reduceAdd, Int.reduceSub, Int.reduceNeg, Int.reduceEq, reduceCtorEq, Nat.reduceMod]
      by_cases h3 : w < 4
      · simp -implicitDefEqProofs only [go_sem, reduceIte, Nat.reduceAdd, Nat.reduceSub, Nat.reduceMul, Nat.reduceLT, Nat.reduceLeDiff, Nat.reduceEqDiff, Nat.reduceBEq, Int.reduceLE, Int.reduceLT, Int.reduceToNat, Int.reduceMul, Int.reduceAdd, Int.reduceSub, Int.reduceNeg, Int.reduceEq, reduceCtorEq, Nat.reduceMod, Int.reduceBNe, Int.reduceBEq, Int.reduceGT, Int.reduceGE, Int.reduceNe, Int.cast_ofNat_Int, Int.natCast_zero, Int.natCast_one, bne_self_eq_false, gt_iff_lt, ge_iff_le, Int.lt_irrefl, Int.le_refl, hF, h1, recsT_length, h2, h3]
        refine call_k s_law03_alive ?_ (by simp -implicitDefEqProofs only [go_sem, reduceIte, Nat.reduceAdd, Nat.reduceSub, Nat.reduceMul, Nat.reduceLT, Nat.reduceLeDiff, Nat.reduceEqDiff, Nat.reduceBEq, Int.reduceLE, Int.reduceLT, Int.reduceToNat, Int.reduceMul, Int.reduceAdd, Int.reduceSub, Int.reduceNeg, Int.reduceEq, reduceCtorEq, Nat.reduceMod])
        simp -implicitDefEqProofs only [go_sem, reduceIte, Nat.reduceAdd, Nat.reduceSub, Nat.reduceMul, Nat.reduceLT, Nat.reduceLeDiff, Nat.reduceEqDiff, Nat.reduceBEq, Int.reduceLE, Int.reduceLT, Int.reduceToNat, Int.reduceMul, Int.reduceAdd, Int.reduceSub, Int.reduceNeg, Int.reduceEq, reduceCtorEq, Nat.reduceMod]
      obtain ⟨k, rfl⟩ : ∃ k : Nat, a = k := ⟨a.toNat, by omega⟩
      obtain ⟨v, rfl⟩ : ∃ v : Nat, w = v := ⟨w.toNat, by omega⟩
      have hk : k < l.length := by omega
      have hd := hG.1 l[k] (List.getElem_mem hk)
      have hbl := bytesL_length l[k]
      have hlt : ((k : Int) < (l.length : Int)) = True := eq_true (by omega)
      have w1 : IntKind.i64.wrap (12 + (l[k].data.length : Int)) = ((12 + l[k].data.length : Nat) : Int) := by rw [wrap_i64_id (by omega) (by omega)]; omega
      by_cases h4 : 12 + l[k].data.length ≤ v
      · have f4 : (((12 + l[k].data.length : Nat) : Int) ≤ (v : Int)) = True := eq_true (by omega)
        simp -implicitDefEqProofs only [go_sem, reduceIte, Nat.reduceAdd, Nat.reduceSub, Nat.reduceMul, Nat.reduceLT, Nat.reduceLeDiff, Nat.reduceEqDiff, Nat.reduceBEq, Int.reduceLE, Int.reduceLT, Int.reduceToNat, Int.reduceMul, Int.reduceAdd, Int.reduceSub, Int.reduceNeg, Int.reduceEq, reduceCtorEq, Nat.reduceMod, Int.reduceBNe, Int.reduceBEq, Int.reduceGT, Int.reduceGE, Int.reduceNe, Int.cast_ofNat_Int, Int.natCast_zero, Int.natCast_one, bne_self_eq_false, gt_iff_lt, ge_iff_le, Int.lt_irrefl, Int.le_refl, hF, h1, recsT_length, h2, h3, recsT_get hk, hlt, Rec.cells, w1, f4]
        refine call_k s_law03_alive ?_ (by simp -implicitDefEqProofs only [go_sem, reduceIte, Nat.reduceAdd, Nat.reduceSub, Nat.reduceMul, Nat.reduceLT, Nat.reduceLeDiff, Nat.reduceEqDiff, Nat.reduceBEq, Int.reduceLE, Int.reduceLT, Int.reduceToNat, Int.reduceMul, Int.reduceAdd, Int.reduceSub, Int.reduceNeg, Int.reduceEq, reduceCtorEq, Nat.reduceMod])
        simp -implicitDefEqProofs only [go_sem, reduceIte, Nat.reduceAdd, Nat.reduceSub, Nat.reduceMul, Nat.reduceLT, Nat.reduceLeDiff, Nat.reduceEqDiff, Nat.reduceBEq, Int.reduceLE, Int.reduceLT, Int.reduceToNat, Int.reduceMul, Int.reduceAdd, Int.reduceSub, Int.reduceNeg, Int.reduceEq, reduceCtorEq, Nat.reduceMod]
      have f4 : (((12 + l[k].data.length : Nat) : Int) ≤ (v : Int)) = False := eq_false (by omega)
      by_cases h5 : y = 0#8
      · have f5 : (((y.toNat : Nat) : Int) == 0) = true := by rw [h5]; rfl
        simp -implicitDefEqProofs only [go_sem, reduceIte, Nat.reduceAdd, Nat.reduceSub, Nat.reduceMul, Nat.reduceLT, Nat.reduceLeDiff, Nat.reduceEqDiff, Nat.reduceBEq, Int.reduceLE, Int.reduceLT, Int.reduceToNat, Int.reduceMul, Int.reduceAdd, Int.reduceSub, Int.reduceNeg, Int.reduceEq, reduceCtorEq, Nat.reduceMod, Int.reduceBNe, Int.reduceBEq, Int.reduceGT, Int.reduceGE, Int.reduceNe, Int.cast_ofNat_Int, Int.natCast_zero, Int.natCast_one, bne_self_eq_false, gt_iff_lt, ge_iff_le, Int.lt_irrefl, Int.le_refl, hF, h1, recsT_length, h2, h3, recsT_get hk, hlt, Rec.cells, w1, f4, f5]
        refine call_k s_law03_alive ?_ (by simp -implicitDefEqProofs only [go_sem, reduceIte, Nat.reduceAdd, Nat.reduceSub, Nat.reduceMul, Nat.reduceLT, Nat.reduceLeDiff, Nat.reduceEqDiff, Nat.reduceBEq, Int.reduceLE, Int.reduceLT, Int.reduceToNat, Int.reduceMul, Int.reduceAdd, Int.reduceSub, Int.reduceNeg, Int.reduceEq, reduceCtorEq, Nat.reduceMod])
        simp -implicitDefEqProofs only [go_sem, reduceIte, Nat.reduceAdd, Nat.reduceSub, Nat.reduceMul, Nat.reduceLT, Nat.reduceLeDiff, Nat.reduceEqDiff, Nat.reduceBEq, Int.reduceLE, Int.reduceLT, Int.reduceToNat, Int.reduceMul, Int.reduceAdd, Int.reduceSub, Int.reduceNeg, Int.reduceEq, reduceCtorEq, Nat.reduceMod]
      have f5 : (((y.toNat : Nat) : Int) == 0) = false := by
        rw [beq_eq_false_iff_ne]
        intro e
        exact h5 (BitVec.eq_of_toNat_eq (by simp; omega))
      simp -implicitDefEqProofs only [go_sem, reduceIte, Nat.reduceAdd, Nat.reduceSub, Nat.reduceMul, Nat.reduceLT, Nat.reduceLeDiff, Nat.reduceEqDiff, Nat.reduceBEq, Int.reduceLE, Int.reduceLT, Int.reduceToNat, Int.reduceMul, Int.reduceAdd, Int.reduceSub, Int.reduceNeg, Int.reduceEq, reduceCtorEq, Nat.reduceMod, Int.reduceBNe, Int.reduceBEq, Int.reduceGT, Int.reduceGE, Int.reduceNe, Int.cast_ofNat_Int, Int.natCast_zero, Int.natCast_one, bne_self_eq_false, gt_iff_lt, ge_iff_le, Int.lt_irrefl, Int.le_refl, hF, h1, recsT_length, h2, h3, recsT_get hk, hlt, Rec.cells, w1, f4, f5]
      have hok := follows_allOk hF
      by_cases hm : (catR l).length ≤ 20000
      · refine call_k (s_frame_All_ok l (by omega) hok hm) ?_
        simp -implicitDefEqProofs only [go_sem, reduceIte, Nat.reduceAdd, Nat.reduceSub, Nat.reduceMul, Nat.reduceLT, Nat.reduceLeDiff, Nat.reduceEqDiff, Nat.reduceBEq, Int.reduceLE, Int.reduceLT, Int.reduceToNat, Int.reduceMul, Int.reduceAdd, Int.reduceSub, Int.reduceNeg, Int.reduceEq, reduceCtorEq, Nat.reduceMod, Int.reduceBNe, Int.reduceBEq, Int.reduceGT, Int.reduceGE, Int.reduceNe, Int.cast_ofNat_Int, Int.natCast_zero, Int.natCast_one, bne_self_eq_false, gt_iff_lt, ge_iff_le, Int.lt_irrefl, Int.le_refl]
        have hvl : v < (bytesL l[k]).length := by omega
        have hcm := catR_many l
        refine loop_l (α := Nat) (fun j => ⟨tmL [(0, .t (.sl (recsT l)) false), (1, .t (.i .i64 k) true), (2, .t (.i .i64 v) true), (3, .t (.i .u8 y.toNat) true), (9, .row 0 0 0 (catR l).length), (11, .t (.i .i64 (catR (l.take j)).length) true), (12, .t (.i .i64 j) true)], [.row 0 1 (bT (catR l)) true]⟩) (fun j => k - j) (fun j => j ≤ k) 0 (by simp -implicitDefEqProofs only [go_sem, reduceIte, Nat.reduceAdd, Nat.reduceSub, Nat.reduceMul, Nat.reduceLT, Nat.reduceLeDiff, Nat.reduceEqDiff, Nat.reduceBEq, Int.reduceLE, Int.reduceLT, Int.reduceToNat, Int.reduceMul, Int.reduceAdd, Int.reduceSub, Int.reduceNeg, Int.reduceEq, reduceCtorEq, Nat.reduceMod]; rfl) (by omega) ?_
        intro j hj R hR
        simp -implicitDefEqProofs only [go_sem, reduceIte, Nat.reduceAdd, Nat.reduceSub, Nat.reduceMul, Nat.reduceLT, Nat.reduceLeDiff, Nat.reduceEqDiff, Nat.reduceBEq, Int.reduceLE, Int.reduceLT, Int.reduceToNat, Int.reduceMul, Int.reduceAdd, Int.reduceSub, Int.reduceNeg, Int.reduceEq, reduceCtorEq, Nat.reduceMod]
        refine wcond_mk (fun h => ?_) (fun h => ?_)
        · have hjk : j < k := by have := of_decide_eq_true h; omega
          have hj' : j < l.length := by omega
          have hst := catR_length_step hj'
          have hle := catR_le l (j + 1)
          have w3 : IntKind.i64.wrap (12 + (l[j].data.length : Int)) = ((12 + l[j].data.length : Nat) : Int) := by rw [wrap_i64_id (by omega) (by omega)]; omega
          have w4 : IntKind.i64.wrap (((catR (l.take j)).length : Int) + ((12 + l[j].data.length : Nat) : Int)) = (((catR (l.take (j + 1))).length : Nat) : Int) := by rw [wrap_i64_id (by omega) (by omega)]; omega
          simp -implicitDefEqProofs only [go_sem, reduceIte, Nat.reduceAdd, Nat.reduceSub, Nat.reduceMul, Nat.reduceLT, Nat.reduceLeDiff, Nat.reduceEqDiff, Nat.reduceBEq, Int.reduceLE, Int.reduceLT, Int.reduceToNat, Int.reduceMul, Int.reduceAdd, Int.reduceSub, Int.reduceNeg, Int.reduceEq, reduceCtorEq, Nat.reduceMod, recsT_get hj', recsT_length, Rec.cells, w3, w4]
          refine hR (j + 1) _ ?_ (by omega) (by omega)
          simp -implicitDefEqProofs only [go_sem, reduceIte, Nat.reduceAdd, Nat.reduceSub, Nat.reduceMul, Nat.reduceLT, Nat.reduceLeDiff, Nat.reduceEqDiff, Nat.reduceBEq, Int.reduceLE, Int.reduceLT, Int.reduceToNat, Int.reduceMul, Int.reduceAdd, Int.reduceSub, Int.reduceNeg, Int.reduceEq, reduceCtorEq, Nat.reduceMod, wrap_i64_id (show -9223372036854775808 ≤ (j : Int) + 1 by omega) (by omega), Int.natCast_add]
          rfl
        · have : ¬ j < k := by have := of_decide_eq_false h; omega
          obtain rfl : j = k := by omega
          have hst := catR_length_step hk
          have hle := catR_le l (j + 1)
          have hat := catR_at hk hvl
          have hflip := scan_flip hF hk (by omega) hvl (xor_ne h5 (x := (bytesL l[j])[v]))
          have w5 : IntKind.i64.wrap (((catR (l.take j)).length : Int) + (v : Int)) = (((catR (l.take j)).length + v : Nat) : Int) := by rw [wrap_i64_id (by omega) (by omega)]; omega
          have f6 : (((catR l).length : Int) ≤ (((catR (l.take j)).length + v : Nat) : Int)) = False := eq_false (by omega)
          have f7 : ((((catR (l.take j)).length + v : Nat) : Int) < ((catR l).length : Int)) = True := eq_true (by omega)
          have hget : (bT (catR l))[(catR (l.take j)).length + v]? = some [.i .u8 (bytesL l[j])[v].toNat] := by
            simp only [bT, List.getElem?_map, hat, Option.map_some]
          have hjl : (l.take j).length = j := by rw [List.length_take]; omega
          have fj : ((j : Int) ≤ (l.length : Int)) = True := eq_true (by omega)
          have f0 : ((0 : Int) ≤ (j : Int)) = True := eq_true (by omega)
          have hsame : Spec Try.prog 26 [.sl (recsT (l.take j)), .sl (recsT (l.take j))] [] (.t (.b true) true) := by
            have := s_ref03_Same (l.take j) (l.take j) (by omega) (fun r hr => by have := hG.1 r (List.mem_of_mem_take hr); omega) (fun r hr => by have := hG.1 r (List.mem_of_mem_take hr); omega)
            rwa [decide_eq_true rfl] at this
          simp -implicitDefEqProofs only [go_sem, reduceIte, Nat.reduceAdd, Nat.reduceSub, Nat.reduceMul, Nat.reduceLT, Nat.reduceLeDiff, Nat.reduceEqDiff, Nat.reduceBEq, Int.reduceLE, Int.reduceLT, Int.reduceToNat, Int.reduceMul, Int.reduceAdd, Int.reduceSub, Int.reduceNeg, Int.reduceEq, reduceCtorEq, Nat.reduceMod, Int.reduceBNe, Int.reduceBEq, Int.reduceGT, Int.reduceGE, Int.reduceNe, Int.cast_ofNat_Int, Int.natCast_zero, Int.natCast_one, bne_self_eq_false, gt_iff_lt, ge_iff_le, Int.lt_irrefl, Int.le_refl, w5, f6, f7, hget]
          rw [setT_one _ _ rfl, bT_setN]
          have hsc := s_frame_Scan_ok ((catR l).set ((catR (l.take j)).length + v) ((bytesL l[j])[v] ^^^ y)) (by rw [List.length_set]; omega)
          rw [hflip] at hsc
          have hsl : ((catR l).set ((catR (l.take j)).length + v) ((bytesL l[j])[v] ^^^ y)).length = (catR l).length := List.length_set
          have htk : List.take (catR l).length (bT ((catR l).set ((catR (l.take j)).length + v) ((bytesL l[j])[v] ^^^ y))) = bT ((catR l).set ((catR (l.take j)).length + v) ((bytesL l[j])[v] ^^^ y)) := by
            rw [← hsl, bT_take_self]
          refine call_k hsc ?_ (by simp -implicitDefEqProofs only [go_sem, reduceIte, Nat.reduceAdd, Nat.reduceSub, Nat.reduceMul, Nat.reduceLT, Nat.reduceLeDiff, Nat.reduceEqDiff, Nat.reduceBEq, Int.reduceLE, Int.reduceLT, Int.reduceToNat, Int.reduceMul, Int.reduceAdd, Int.reduceSub, Int.reduceNeg, Int.reduceEq, reduceCtorEq, Nat.reduceMod, Int.reduceBNe, Int.reduceBEq, Int.reduceGT, Int.reduceGE, Int.reduceNe, Int.cast_ofNat_Int, Int.natCast_zero, Int.natCast_one, bne_self_eq_false, gt_iff_lt, ge_iff_le, Int.lt_irrefl, Int.le_refl]; exact htk)
          simp -implicitDefEqProofs only [go_sem, reduceIte, Nat.reduceAdd, Nat.reduceSub, Nat.reduceMul, Nat.reduceLT, Nat.reduceLeDiff, Nat.reduceEqDiff, Nat.reduceBEq, Int.reduceLE, Int.reduceLT, Int.reduceToNat, Int.reduceMul, Int.reduceAdd, Int.reduceSub, Int.reduceNeg, Int.reduceEq, reduceCtorEq, Nat.reduceMod, Int.reduceBNe, Int.reduceBEq, Int.reduceGT, Int.reduceGE, Int.reduceNe, Int.cast_ofNat_Int, Int.natCast_zero, Int.natCast_one, bne_self_eq_false, gt_iff_lt, ge_iff_le, Int.lt_irrefl, Int.le_refl, recsT_length, hjl, recsT_take, fj, f0, Int.sub_zero]
          refine ⟨.inl trivial, ?_⟩
          refine call_k hsame ?_
          simp -implicitDefEqProofs only [go_sem, reduceIte, Nat.reduceAdd, Nat.reduceSub, Nat.reduceMul, Nat.reduceLT, Nat.reduceLeDiff, Nat.reduceEqDiff, Nat.reduceBEq, Int.reduceLE, Int.reduceLT, Int.reduceToNat, Int.reduceMul, Int.reduceAdd, Int.reduceSub, Int.reduceNeg, Int.reduceEq, reduceCtorEq, Nat.reduceMod, Int.reduceBNe, Int.reduceBEq, Int.reduceGT, Int.reduceGE, Int.reduceNe, Int.cast_ofNat_Int, Int.natCast_zero, Int.natCast_one, bne_self_eq_false, gt_iff_lt, ge_iff_le, Int.lt_irrefl, Int.le_refl]
          refine call_k s_law03_alive ?_ (by simp -implicitDefEqProofs only [go_sem, reduceIte, Nat.reduceAdd, Nat.reduceSub, Nat.reduceMul, Nat.reduceLT, Nat.reduceLeDiff, Nat.reduceEqDiff, Nat.reduceBEq, Int.reduceLE, Int.reduceLT, Int.reduceToNat, Int.reduceMul, Int.reduceAdd, Int.reduceSub, Int.reduceNeg, Int.reduceEq, reduceCtorEq, Nat.reduceMod])
          simp -implicitDefEqProofs only [go_sem, reduceIte, Nat.reduceAdd, Nat.reduceSub, Nat.reduceMul, Nat.reduceLT, Nat.reduceLeDiff, Nat.reduceEqDiff, Nat.reduceBEq, Int.reduceLE, Int.reduceLT, Int.reduceToNat, Int.reduceMul, Int.reduceAdd, Int.reduceSub, Int.reduceNeg, Int.reduceEq, reduceCtorEq, Nat.reduceMod]
      · refine call_k (s_frame_All_many l (by omega) hok (by omega)) ?_
        simp -implicitDefEqProofs only [go_sem, reduceIte, Nat.reduceAdd, Nat.reduceSub, Nat.reduceMul, Nat.reduceLT, Nat.reduceLeDiff, Nat.reduceEqDiff, Nat.reduceBEq, Int.reduceLE, Int.reduceLT, Int.reduceToNat, Int.reduceMul, Int.reduceAdd, Int.reduceSub, Int.reduceNeg, Int.reduceEq, reduceCtorEq, Nat.reduceMod, Int.reduceBNe, Int.reduceBEq, Int.reduceGT, Int.reduceGE, Int.reduceNe, Int.cast_ofNat_Int, Int.natCast_zero, Int.natCast_one, bne_self_eq_false, gt_iff_lt, ge_iff_le, Int.lt_irrefl, Int.le_refl]
        refine call_k s_law03_alive ?_ (by simp -implicitDefEqProofs only [go_sem, reduceIte, Nat.reduceAdd, Nat.reduceSub, Nat.reduceMul, Nat.reduceLT, Nat.reduceLeDiff, Nat.reduceEqDiff, Nat.reduceBEq, Int.reduceLE, Int.reduceLT, Int.reduceToNat, Int.reduceMul, Int.reduceAdd, Int.reduceSub, Int.reduceNeg, Int.reduceEq, reduceCtorEq, Nat.reduceMod])
        simp -implicitDefEqProofs only [go_sem, reduceIte, Nat.reduceAdd, Nat.reduceSub, Nat.reduceMul, Nat.reduceLT, Nat.reduceLeDiff, Nat.reduceEqDiff, Nat.reduceBEq, Int.reduceLE, Int.reduceLT, Int.reduceToNat, Int.reduceMul, Int.reduceAdd, Int.reduceSub, Int.reduceNeg, Int.reduceEq, reduceCtorEq, Nat.reduceMod]
end Go.Proofs.Ytadnjellfiafaaa.Pm
