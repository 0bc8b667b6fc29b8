/- Texts of this proof in one file: PmJi, PmJj, PmJl. No law of Go's is stated here. -/
import Derived.Test.YtgkmhmhbepfiaaaDoorPmMg
/-! PmJi -/
set_option linter.all false
set_option maxRecDepth 100000
set_option maxHeartbeats 2000000
namespace Go.Proofs.YtgkmhmhbepfiaaaDoor.Pm
open Go Go.RowKit

end Go.Proofs.YtgkmhmhbepfiaaaDoor.Pm

/-! PmJj -/
set_option linter.all false
set_option maxRecDepth 100000
set_option maxHeartbeats 2000000
namespace Go.Proofs.YtgkmhmhbepfiaaaDoor.Pm
open Go Go.RowKit

attribute [go_sem] Wit.cells
structure Wit.fine (w : Wit) : Prop where
  p : w.prev.length = 32
  l : ∀ d ∈ w.later, d.length = 32
  lo : -9223372036854775808 ≤ w.pos
  hi : w.pos ≤ 9223372036854775807
  dl : w.data.length ≤ 1000000
  ll : w.later.length ≤ 1000000
theorem id1s_bF : ∀ (ws : List (BitVec 8)) (X : List AV), id1s (bF ws ++ X) = id1s X
  | [], X => rfl
  | b :: ws, X => by
    show id1s (.t (.i .u8 b.toNat) false :: (bF ws ++ X)) = _
    simp only [id1s, AV.id1, List.nil_append, id1s_bF ws X]
attribute [go_sem] id1s_bF
end Go.Proofs.YtgkmhmhbepfiaaaDoor.Pm

/-! PmJl -/
set_option linter.all false
set_option maxRecDepth 100000
set_option maxHeartbeats 2000000
namespace Go.Proofs.YtgkmhmhbepfiaaaDoor.Pm
open Go Go.RowKit

def comN : List Lnk → List Lnk → Nat
  | x :: xs, y :: ys => if x.sum = y.sum then comN xs ys + 1 else 0
  | _, _ => 0
theorem comN_step {a b : List Lnk} {k : Nat} (ha : k < a.length) (hb : k < b.length) (he : a[k].sum = b[k].sum) : comN (a.drop k) (b.drop k) = comN (a.drop (k + 1)) (b.drop (k + 1)) + 1 := by
  rw [List.drop_eq_getElem_cons ha, List.drop_eq_getElem_cons hb, comN, if_pos he]
theorem comN_ne {a b : List Lnk} {k : Nat} (ha : k < a.length) (hb : k < b.length) (he : ¬ a[k].sum = b[k].sum) : comN (a.drop k) (b.drop k) = 0 := by
  rw [List.drop_eq_getElem_cons ha, List.drop_eq_getElem_cons hb, comN, if_neg he]
theorem comN_end {a b : List Lnk} {k : Nat} (h : ¬ (k < a.length ∧ k < b.length)) : comN (a.drop k) (b.drop k) = 0 := by
  by_cases ha : k < a.length
  · have hb : ¬ k < b.length := fun hb => h ⟨ha, hb⟩
    rw [List.drop_of_length_le (show b.length ≤ k by omega)]
    cases a.drop k <;> rfl
  · rw [List.drop_of_length_le (show a.length ≤ k by omega)]
    rfl
def comE (a b : List Lnk) : Int := if headE a = 0 then headE b else headE a
def comV (a b : List Lnk) : Int := if comE a b = 0 then (comN a b : Int) else 0
theorem s_chain_Common (a b : List Lnk) (ha : lnOK a) (hb : lnOK b) : Spec Tryd.prog 48 [.sl (lnT a), .sl (lnT b)] [] (.tup [.t (.i .i64 (comV a b)) true, .t (.i .i64 (comE a b)) true]) := by
  refine spec_k (hold mixed) b_chain_Common [(.i .i64 (comV a b), true), (.i .i64 (comE a b), true)] ?_
  have h1 := headV_len ha
  have h2 := headV_len hb
  simp -implicitDefEqProofs only [go_sem, reduceIte, Nat.reduceAdd, Nat.reduceSub, Nat.reduceMul, Nat.reduceLT, Nat.reduceLeDiff, Nat.reduceEqDiff, Nat.reduceBEq, Int.reduceLE, Int.reduceLT, Int.reduceToNat, Int.reduceMul, Int.reduceAdd, Int.reduceSub, Int.reduceNeg, Int.reduceEq, reduceCtorEq, Nat.reduceMod, Int.reduceBNe, Int.reduceBEq, Int.reduceGT, Int.reduceGE, Int.reduceNe, Int.cast_ofNat_Int, Int.natCast_zero, Int.natCast_one, bne_self_eq_false, gt_iff_lt, ge_iff_le, Int.lt_irrefl, Int.le_refl, Nat.reduceDiv]
  refine loop_u 3 (ln_step (by simp -implicitDefEqProofs only [go_sem, reduceIte, Nat.reduceAdd, Nat.reduceSub, Nat.reduceMul, Nat.reduceLT, Nat.reduceLeDiff, Nat.reduceEqDiff, Nat.reduceBEq, Int.reduceLE, Int.reduceLT, Int.reduceToNat, Int.reduceMul, Int.reduceAdd, Int.reduceSub, Int.reduceNeg, Int.reduceEq, reduceCtorEq, Nat.reduceMod]; rfl) fun R0 hR0 => ?_)
  simp -implicitDefEqProofs only [go_sem, reduceIte, Nat.reduceAdd, Nat.reduceSub, Nat.reduceMul, Nat.reduceLT, Nat.reduceLeDiff, Nat.reduceEqDiff, Nat.reduceBEq, Int.reduceLE, Int.reduceLT, Int.reduceToNat, Int.reduceMul, Int.reduceAdd, Int.reduceSub, Int.reduceNeg, Int.reduceEq, reduceCtorEq, Nat.reduceMod, Int.reduceBNe, Int.reduceBEq, Int.reduceGT, Int.reduceGE, Int.reduceNe, Int.cast_ofNat_Int, Int.natCast_zero, Int.natCast_one, bne_self_eq_false, gt_iff_lt, ge_iff_le, Int.lt_irrefl, Int.le_refl, Nat.reduceDiv]
  first | refine call_k (s_chain_Head a ha) ?_ | refine call_d (s_chain_Head a ha) ?_
  by_cases c1 : headE a = 0
  · have c1' : (headE a != 0) = false := by rw [c1]; rfl
    have hE : comE a b = headE b := if_pos c1
    simp -implicitDefEqProofs only [go_sem, reduceIte, Nat.reduceAdd, Nat.reduceSub, Nat.reduceMul, Nat.reduceLT, Nat.reduceLeDiff, Nat.reduceEqDiff, Nat.reduceBEq, Int.reduceLE, Int.reduceLT, Int.reduceToNat, Int.reduceMul, Int.reduceAdd, Int.reduceSub, Int.reduceNeg, Int.reduceEq, reduceCtorEq, Nat.reduceMod, Int.reduceBNe, Int.reduceBEq, Int.reduceGT, Int.reduceGE, Int.reduceNe, Int.cast_ofNat_Int, Int.natCast_zero, Int.natCast_one, bne_self_eq_false, gt_iff_lt, ge_iff_le, Int.lt_irrefl, Int.le_refl, Nat.reduceDiv, bN_map, h1, bC_take h1, c1']
    refine ⟨bC_one _, hR0 _ (ln_step (by simp -implicitDefEqProofs only [go_sem, reduceIte, Nat.reduceAdd, Nat.reduceSub, Nat.reduceMul, Nat.reduceLT, Nat.reduceLeDiff, Nat.reduceEqDiff, Nat.reduceBEq, Int.reduceLE, Int.reduceLT, Int.reduceToNat, Int.reduceMul, Int.reduceAdd, Int.reduceSub, Int.reduceNeg, Int.reduceEq, reduceCtorEq, Nat.reduceMod]; rfl) fun R1 hR1 => ?_)⟩
    simp -implicitDefEqProofs only [go_sem, reduceIte, Nat.reduceAdd, Nat.reduceSub, Nat.reduceMul, Nat.reduceLT, Nat.reduceLeDiff, Nat.reduceEqDiff, Nat.reduceBEq, Int.reduceLE, Int.reduceLT, Int.reduceToNat, Int.reduceMul, Int.reduceAdd, Int.reduceSub, Int.reduceNeg, Int.reduceEq, reduceCtorEq, Nat.reduceMod, Int.reduceBNe, Int.reduceBEq, Int.reduceGT, Int.reduceGE, Int.reduceNe, Int.cast_ofNat_Int, Int.natCast_zero, Int.natCast_one, bne_self_eq_false, gt_iff_lt, ge_iff_le, Int.lt_irrefl, Int.le_refl, Nat.reduceDiv]
    first | refine call_k (s_chain_Head b hb) ?_ | refine call_d (s_chain_Head b hb) ?_
    by_cases c2 : headE b = 0
    · have c2' : (headE b != 0) = false := by rw [c2]; rfl
      have hV : comV a b = comN a b := by unfold comV; rw [hE, if_pos c2]
      have l1 := (checkV_inv (headE_0 c1).1).1
      have l2 := (checkV_inv (headE_0 c2).1).1
      rw [hE, hV, c2]
      simp -implicitDefEqProofs only [go_sem, reduceIte, Nat.reduceAdd, Nat.reduceSub, Nat.reduceMul, Nat.reduceLT, Nat.reduceLeDiff, Nat.reduceEqDiff, Nat.reduceBEq, Int.reduceLE, Int.reduceLT, Int.reduceToNat, Int.reduceMul, Int.reduceAdd, Int.reduceSub, Int.reduceNeg, Int.reduceEq, reduceCtorEq, Nat.reduceMod, Int.reduceBNe, Int.reduceBEq, Int.reduceGT, Int.reduceGE, Int.reduceNe, Int.cast_ofNat_Int, Int.natCast_zero, Int.natCast_one, bne_self_eq_false, gt_iff_lt, ge_iff_le, Int.lt_irrefl, Int.le_refl, Nat.reduceDiv, bN_map, h2, bC_take h2, c2']
      refine ⟨bC_one _, hR1 _ (ln_step (by simp -implicitDefEqProofs only [go_sem, reduceIte, Nat.reduceAdd, Nat.reduceSub, Nat.reduceMul, Nat.reduceLT, Nat.reduceLeDiff, Nat.reduceEqDiff, Nat.reduceBEq, Int.reduceLE, Int.reduceLT, Int.reduceToNat, Int.reduceMul, Int.reduceAdd, Int.reduceSub, Int.reduceNeg, Int.reduceEq, reduceCtorEq, Nat.reduceMod]; rfl) fun R2 hR2 => ?_)⟩
      simp -implicitDefEqProofs only [go_sem, reduceIte, Nat.reduceAdd, Nat.reduceSub, Nat.reduceMul, Nat.reduceLT, Nat.reduceLeDiff, Nat.reduceEqDiff, Nat.reduceBEq, Int.reduceLE, Int.reduceLT, Int.reduceToNat, Int.reduceMul, Int.reduceAdd, Int.reduceSub, Int.reduceNeg, Int.reduceEq, reduceCtorEq, Nat.reduceMod, Int.reduceBNe, Int.reduceBEq, Int.reduceGT, Int.reduceGE, Int.reduceNe, Int.cast_ofNat_Int, Int.natCast_zero, Int.natCast_one, bne_self_eq_false, gt_iff_lt, ge_iff_le, Int.lt_irrefl, Int.le_refl, Nat.reduceDiv]
      have hmin : (if (b.length : Int) < (a.length : Int) then (b.length : Int) else (a.length : Int)) = ((min a.length b.length : Nat) : Int) := by
        by_cases h : (b.length : Int) < (a.length : Int)
        · rw [if_pos h]; omega
        · rw [if_neg h]; omega
      refine loop_l (α := Nat) (fun k => ⟨tmL [(0, .t (.sl (lnT a)) false), (1, .t (.sl (lnT b)) false), (10, .t (.i .i64 k) true)], [.row 0 1 [[.sl (lnT a)], [.sl (lnT b)]] false]⟩) (fun k => a.length - k) (fun k => k ≤ a.length ∧ comN a b = comN (a.drop k) (b.drop k) + k) 0 (by simp -implicitDefEqProofs only [go_sem, reduceIte, Nat.reduceAdd, Nat.reduceSub, Nat.reduceMul, Nat.reduceLT, Nat.reduceLeDiff, Nat.reduceEqDiff, Nat.reduceBEq, Int.reduceLE, Int.reduceLT, Int.reduceToNat, Int.reduceMul, Int.reduceAdd, Int.reduceSub, Int.reduceNeg, Int.reduceEq, reduceCtorEq, Nat.reduceMod]; rfl) ⟨Nat.zero_le _, rfl⟩ ?_
      rintro k ⟨hk, he⟩ R hR
      by_cases q0 : k < a.length ∧ k < b.length
      · obtain ⟨q1, q2⟩ := q0
        have q1' : ((k : Int) < (a.length : Int)) = True := eq_true (by omega)
        have q2' : ((k : Int) < (b.length : Int)) = True := eq_true (by omega)
        have q4 : ((k : Int) < ((min a.length b.length : Nat) : Int)) = True := eq_true (by omega)
        have h3a := lnOK_get ha q1
        have h3b := lnOK_get hb q2
        by_cases q3 : a[k].sum = b[k].sum
        · have q3' : (a[k].sum == b[k].sum) = true := by rw [q3]; simp
          simp -implicitDefEqProofs only [go_sem, reduceIte, Nat.reduceAdd, Nat.reduceSub, Nat.reduceMul, Nat.reduceLT, Nat.reduceLeDiff, Nat.reduceEqDiff, Nat.reduceBEq, Int.reduceLE, Int.reduceLT, Int.reduceToNat, Int.reduceMul, Int.reduceAdd, Int.reduceSub, Int.reduceNeg, Int.reduceEq, reduceCtorEq, Nat.reduceMod, Int.reduceBNe, Int.reduceBEq, Int.reduceGT, Int.reduceGE, Int.reduceNe, Int.cast_ofNat_Int, Int.natCast_zero, Int.natCast_one, bne_self_eq_false, gt_iff_lt, ge_iff_le, Int.lt_irrefl, Int.le_refl, Nat.reduceDiv, hmin, q4, q1', q2', lnT_get q1, lnT_get q2, h3a, h3b, bN_take h3a, bN_take h3b, eqCells_bN a[k].sum b[k].sum (by rw [h3a, h3b]), q3']
          refine ⟨bN_isI _, hR (k + 1) _ ?_ ⟨by omega, by rw [he, comN_step q1 q2 q3]; omega⟩ (by omega)⟩
          simp -implicitDefEqProofs only [go_sem, reduceIte, Nat.reduceAdd, Nat.reduceSub, Nat.reduceMul, Nat.reduceLT, Nat.reduceLeDiff, Nat.reduceEqDiff, Nat.reduceBEq, Int.reduceLE, Int.reduceLT, Int.reduceToNat, Int.reduceMul, Int.reduceAdd, Int.reduceSub, Int.reduceNeg, Int.reduceEq, reduceCtorEq, Nat.reduceMod, wrap_i64_id (show -9223372036854775808 ≤ (k : Int) + 1 by omega) (by omega), Int.natCast_add]
          rfl
        · have q3' : (a[k].sum == b[k].sum) = false := by rw [beq_eq_false_iff_ne]; exact q3
          have hz := comN_ne q1 q2 q3
          rw [hz, Nat.zero_add] at he
          simp -implicitDefEqProofs only [go_sem, reduceIte, Nat.reduceAdd, Nat.reduceSub, Nat.reduceMul, Nat.reduceLT, Nat.reduceLeDiff, Nat.reduceEqDiff, Nat.reduceBEq, Int.reduceLE, Int.reduceLT, Int.reduceToNat, Int.reduceMul, Int.reduceAdd, Int.reduceSub, Int.reduceNeg, Int.reduceEq, reduceCtorEq, Nat.reduceMod, Int.reduceBNe, Int.reduceBEq, Int.reduceGT, Int.reduceGE, Int.reduceNe, Int.cast_ofNat_Int, Int.natCast_zero, Int.natCast_one, bne_self_eq_false, gt_iff_lt, ge_iff_le, Int.lt_irrefl, Int.le_refl, Nat.reduceDiv, hmin, q4, q1', q2', lnT_get q1, lnT_get q2, h3a, h3b, bN_take h3a, bN_take h3b, eqCells_bN a[k].sum b[k].sum (by rw [h3a, h3b]), q3', he]
          rw [hV, hE, c2, he]
          exact ⟨bN_isI _, rfl, rfl⟩
      · have q4 : ((k : Int) < ((min a.length b.length : Nat) : Int)) = False := eq_false (by omega)
        have hz := comN_end (a := a) (b := b) (k := k) q0
        rw [hz, Nat.zero_add] at he
        simp -implicitDefEqProofs only [go_sem, reduceIte, Nat.reduceAdd, Nat.reduceSub, Nat.reduceMul, Nat.reduceLT, Nat.reduceLeDiff, Nat.reduceEqDiff, Nat.reduceBEq, Int.reduceLE, Int.reduceLT, Int.reduceToNat, Int.reduceMul, Int.reduceAdd, Int.reduceSub, Int.reduceNeg, Int.reduceEq, reduceCtorEq, Nat.reduceMod, Int.reduceBNe, Int.reduceBEq, Int.reduceGT, Int.reduceGE, Int.reduceNe, Int.cast_ofNat_Int, Int.natCast_zero, Int.natCast_one, bne_self_eq_false, gt_iff_lt, ge_iff_le, Int.lt_irrefl, Int.le_refl, Nat.reduceDiv, hmin, q4, he]
        rw [hV, hE, c2, he]
        exact ⟨rfl, rfl⟩
    · have c2' : (headE b != 0) = true := by rw [bne_iff_ne]; exact c2
      have hV : comV a b = 0 := by unfold comV; rw [hE, if_neg c2]
      rw [hE, hV]
      simp -implicitDefEqProofs only [go_sem, reduceIte, Nat.reduceAdd, Nat.reduceSub, Nat.reduceMul, Nat.reduceLT, Nat.reduceLeDiff, Nat.reduceEqDiff, Nat.reduceBEq, Int.reduceLE, Int.reduceLT, Int.reduceToNat, Int.reduceMul, Int.reduceAdd, Int.reduceSub, Int.reduceNeg, Int.reduceEq, reduceCtorEq, Nat.reduceMod, Int.reduceBNe, Int.reduceBEq, Int.reduceGT, Int.reduceGE, Int.reduceNe, Int.cast_ofNat_Int, Int.natCast_zero, Int.natCast_one, bne_self_eq_false, gt_iff_lt, ge_iff_le, Int.lt_irrefl, Int.le_refl, Nat.reduceDiv, bN_map, h2, bC_take h2, c2']
      exact bC_one _
  · have c1' : (headE a != 0) = true := by rw [bne_iff_ne]; exact c1
    have hE : comE a b = headE a := if_neg c1
    have hV : comV a b = 0 := by unfold comV; rw [hE, if_neg c1]
    rw [hE, hV]
    simp -implicitDefEqProofs only [go_sem, reduceIte, Nat.reduceAdd, Nat.reduceSub, Nat.reduceMul, Nat.reduceLT, Nat.reduceLeDiff, Nat.reduceEqDiff, Nat.reduceBEq, Int.reduceLE, Int.reduceLT, Int.reduceToNat, Int.reduceMul, Int.reduceAdd, Int.reduceSub, Int.reduceNeg, Int.reduceEq, reduceCtorEq, Nat.reduceMod, Int.reduceBNe, Int.reduceBEq, Int.reduceGT, Int.reduceGE, Int.reduceNe, Int.cast_ofNat_Int, Int.natCast_zero, Int.natCast_one, bne_self_eq_false, gt_iff_lt, ge_iff_le, Int.lt_irrefl, Int.le_refl, Nat.reduceDiv, bN_map, h1, bC_take h1, c1']
    exact bC_one _
end Go.Proofs.YtgkmhmhbepfiaaaDoor.Pm
