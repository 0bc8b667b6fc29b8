/- ChainGrows. -/
import Derived.Test.YtgkmhmhbepfiaaaDoorPmMi
set_option linter.all false
set_option maxRecDepth 100000
set_option maxHeartbeats 4000000
namespace Go.Proofs.YtgkmhmhbepfiaaaDoor.Pm
open Go Go.RowKit

attribute [go_sem] catE_length
theorem mk_same {all others : List (List (BitVec 8))} : ∀ {j : Nat}, j ≤ all.length → j ≤ others.length → (∀ q (h1 : q < all.length) (h2 : q < others.length), q < j → all[q] = others[q]) → mkL all j = mkL others j
  | 0, _, _, _ => rfl
  | j + 1, h1, h2, hq => by
    have ih := mk_same (j := j) (by omega) (by omega) fun q a b c => hq q a b (by omega)
    rw [mkL_step (show j < all.length by omega), mkL_step (show j < others.length by omega), ih, hq j (by omega) (by omega) (by omega)]
theorem comN_pre {a b : List Lnk} : ∀ {j : Nat}, j ≤ a.length → j ≤ b.length → (∀ q (h1 : q < a.length) (h2 : q < b.length), q < j → a[q].sum = b[q].sum) → comN a b = j + comN (a.drop j) (b.drop j)
  | 0, _, _, _ => by simp
  | j + 1, h1, h2, hq => by
    rw [comN_pre (j := j) (by omega) (by omega) fun q a b c => hq q a b (by omega), comN_step (show j < a.length by omega) (show j < b.length by omega) (hq j (by omega) (by omega) (by omega))]
    omega
theorem com_pre {all others : List (List (BitVec 8))} {n m j : Nat} (hn : n ≤ all.length) (hm : m ≤ others.length) (h1 : j ≤ n) (h2 : j ≤ m) (hq : ∀ q (h1 : q < all.length) (h2 : q < others.length), q < j → all[q] = others[q]) :
    comN (mkL all n) (mkL others m) = j + comN ((mkL all n).drop j) ((mkL others m).drop j) := by
  refine comN_pre (by rw [mkL_len]; exact h1) (by rw [mkL_len]; exact h2) fun q a b c => ?_
  rw [mkL_len] at a b
  rw [mkL_get a hn, mkL_get b hm, mk_same (j := q) (by omega) (by omega) fun r x y z => hq r x y (by omega), hq q (by omega) (by omega) c]
theorem com_ne {all others : List (List (BitVec 8))} {n m j : Nat} (h1 : j < n) (h2 : j < m) (hn : n ≤ all.length) (hm : m ≤ others.length) (hq : ∀ q (h1 : q < all.length) (h2 : q < others.length), q < j → all[q] = others[q])
    (hs : ¬ stepV (befV (mkL all n) j) j (ofV (all[j]'(by omega))) = stepV (befV (mkL all n) j) j (ofV (others[j]'(by omega)))) :
    comN ((mkL all n).drop j) ((mkL others m).drop j) = 0 := by
  refine comN_ne (by rw [mkL_len]; exact h1) (by rw [mkL_len]; exact h2) fun h => hs ?_
  rw [mkL_get h1 hn, mkL_get h2 hm, ← mk_same (j := j) (by omega) (by omega) fun r x y z => hq r x y (by omega)] at h
  rw [befV_mkL all (show j ≤ n by omega)]
  exact h
def grF (all others : List (List (BitVec 8))) (i : Nat) : S := ⟨tmL [(0, .t (.sl (catE all)) false), (1, .t (.sl (catE others)) false), (5, .t (.b true) true), (6, .t (.sl (lnT (mkL all all.length))) true), (8, .t (.sl (lnT (mkL others others.length))) true), (10, .t (.sl (lnT (mkL all i))) true), (11, .ptr 0 0), (12, .t (.i .i64 i) true)], [.var (bC (befV (mkL all i) i))]⟩
def gsF (all others : List (List (BitVec 8))) (j : Nat) : S := ⟨tmL [(0, .t (.sl (catE all)) false), (1, .t (.sl (catE others)) false), (5, .t (.b true) true), (6, .t (.sl (lnT (mkL all all.length))) true), (8, .t (.sl (lnT (mkL others others.length))) true), (10, .t (.sl (lnT (mkL all all.length))) true), (19, .t (.i .i64 j) true)], [.var (bC (befV (mkL all all.length) all.length))]⟩
theorem s_law44_ChainGrows (all others : List (List (BitVec 8))) (hall : all.length ≤ 140737488355328) (hoth : others.length ≤ 140737488355328) :
    Spec Tryd.prog 12 [.sl (catE all), .sl (catE others)] [] (.t (.b true) true) := by
  refine spec_k (hold mixed) b_law44_ChainGrows [(.b true, true)] ?_
  simp -implicitDefEqProofs only [go_sem, reduceIte, Nat.reduceAdd, Nat.reduceSub, Nat.reduceMul, Nat.reduceLT, Nat.reduceLeDiff, Nat.reduceEqDiff, Nat.reduceBEq, Int.reduceLE, Int.reduceLT, Int.reduceToNat, Int.reduceMul, Int.reduceAdd, Int.reduceSub, Int.reduceNeg, Int.reduceEq, reduceCtorEq, Nat.reduceMod, Int.reduceBNe, Int.reduceBEq, Int.reduceGT, Int.reduceGE, Int.reduceNe, Int.cast_ofNat_Int, Int.natCast_zero, Int.natCast_one, bne_self_eq_false, gt_iff_lt, ge_iff_le, Int.lt_irrefl, Int.le_refl, Nat.reduceDiv]
  first | refine call_k s_chainAlive ?_ | refine call_d s_chainAlive ?_
  simp -implicitDefEqProofs only [go_sem, reduceIte, Nat.reduceAdd, Nat.reduceSub, Nat.reduceMul, Nat.reduceLT, Nat.reduceLeDiff, Nat.reduceEqDiff, Nat.reduceBEq, Int.reduceLE, Int.reduceLT, Int.reduceToNat, Int.reduceMul, Int.reduceAdd, Int.reduceSub, Int.reduceNeg, Int.reduceEq, reduceCtorEq, Nat.reduceMod, Int.reduceBNe, Int.reduceBEq, Int.reduceGT, Int.reduceGE, Int.reduceNe, Int.cast_ofNat_Int, Int.natCast_zero, Int.natCast_one, bne_self_eq_false, gt_iff_lt, ge_iff_le, Int.lt_irrefl, Int.le_refl, Nat.reduceDiv]
  first | refine call_k (s_ref44_GreatBytes all hall) ?_ | refine call_d (s_ref44_GreatBytes all hall) ?_
  cases ga : greatB all with
  | true => simp -implicitDefEqProofs only [go_sem, reduceIte, Nat.reduceAdd, Nat.reduceSub, Nat.reduceMul, Nat.reduceLT, Nat.reduceLeDiff, Nat.reduceEqDiff, Nat.reduceBEq, Int.reduceLE, Int.reduceLT, Int.reduceToNat, Int.reduceMul, Int.reduceAdd, Int.reduceSub, Int.reduceNeg, Int.reduceEq, reduceCtorEq, Nat.reduceMod, Int.reduceBNe, Int.reduceBEq, Int.reduceGT, Int.reduceGE, Int.reduceNe, Int.cast_ofNat_Int, Int.natCast_zero, Int.natCast_one, bne_self_eq_false, gt_iff_lt, ge_iff_le, Int.lt_irrefl, Int.le_refl, Nat.reduceDiv]
  | false =>
    by_cases c1 : all.length ≤ 12
    · have c1' : ((12 : Int) < (all.length : Int)) = False := eq_false (by omega)
      simp -implicitDefEqProofs only [go_sem, reduceIte, Nat.reduceAdd, Nat.reduceSub, Nat.reduceMul, Nat.reduceLT, Nat.reduceLeDiff, Nat.reduceEqDiff, Nat.reduceBEq, Int.reduceLE, Int.reduceLT, Int.reduceToNat, Int.reduceMul, Int.reduceAdd, Int.reduceSub, Int.reduceNeg, Int.reduceEq, reduceCtorEq, Nat.reduceMod, Int.reduceBNe, Int.reduceBEq, Int.reduceGT, Int.reduceGE, Int.reduceNe, Int.cast_ofNat_Int, Int.natCast_zero, Int.natCast_one, bne_self_eq_false, gt_iff_lt, ge_iff_le, Int.lt_irrefl, Int.le_refl, Nat.reduceDiv, c1']
      first | refine call_k (s_ref44_GreatBytes others hoth) ?_ | refine call_d (s_ref44_GreatBytes others hoth) ?_
      cases gb : greatB others with
      | true => simp -implicitDefEqProofs only [go_sem, reduceIte, Nat.reduceAdd, Nat.reduceSub, Nat.reduceMul, Nat.reduceLT, Nat.reduceLeDiff, Nat.reduceEqDiff, Nat.reduceBEq, Int.reduceLE, Int.reduceLT, Int.reduceToNat, Int.reduceMul, Int.reduceAdd, Int.reduceSub, Int.reduceNeg, Int.reduceEq, reduceCtorEq, Nat.reduceMod, Int.reduceBNe, Int.reduceBEq, Int.reduceGT, Int.reduceGE, Int.reduceNe, Int.cast_ofNat_Int, Int.natCast_zero, Int.natCast_one, bne_self_eq_false, gt_iff_lt, ge_iff_le, Int.lt_irrefl, Int.le_refl, Nat.reduceDiv]
      | false =>
        by_cases c2 : others.length ≤ 12
        · have c2' : ((12 : Int) < (others.length : Int)) = False := eq_false (by omega)
          simp -implicitDefEqProofs only [go_sem, reduceIte, Nat.reduceAdd, Nat.reduceSub, Nat.reduceMul, Nat.reduceLT, Nat.reduceLeDiff, Nat.reduceEqDiff, Nat.reduceBEq, Int.reduceLE, Int.reduceLT, Int.reduceToNat, Int.reduceMul, Int.reduceAdd, Int.reduceSub, Int.reduceNeg, Int.reduceEq, reduceCtorEq, Nat.reduceMod, Int.reduceBNe, Int.reduceBEq, Int.reduceGT, Int.reduceGE, Int.reduceNe, Int.cast_ofNat_Int, Int.natCast_zero, Int.natCast_one, bne_self_eq_false, gt_iff_lt, ge_iff_le, Int.lt_irrefl, Int.le_refl, Nat.reduceDiv, c2']
          first | refine call_k (s_MakeT all) ?_ | refine call_d (s_MakeT all) ?_
          simp -implicitDefEqProofs only [go_sem, reduceIte, Nat.reduceAdd, Nat.reduceSub, Nat.reduceMul, Nat.reduceLT, Nat.reduceLeDiff, Nat.reduceEqDiff, Nat.reduceBEq, Int.reduceLE, Int.reduceLT, Int.reduceToNat, Int.reduceMul, Int.reduceAdd, Int.reduceSub, Int.reduceNeg, Int.reduceEq, reduceCtorEq, Nat.reduceMod, Int.reduceBNe, Int.reduceBEq, Int.reduceGT, Int.reduceGE, Int.reduceNe, Int.cast_ofNat_Int, Int.natCast_zero, Int.natCast_one, bne_self_eq_false, gt_iff_lt, ge_iff_le, Int.lt_irrefl, Int.le_refl, Nat.reduceDiv]
          first | refine call_k (s_MakeT others) ?_ | refine call_d (s_MakeT others) ?_
          by_cases he : makeE all = 0
          · obtain ⟨_, hs⟩ := makeE_0 he
            by_cases hf : makeE others = 0
            · obtain ⟨_, ht⟩ := makeE_0 hf
              rw [show makeV all = mkL all all.length from if_pos he, show makeV others = mkL others others.length from if_pos hf]
              simp -implicitDefEqProofs only [go_sem, reduceIte, Nat.reduceAdd, Nat.reduceSub, Nat.reduceMul, Nat.reduceLT, Nat.reduceLeDiff, Nat.reduceEqDiff, Nat.reduceBEq, Int.reduceLE, Int.reduceLT, Int.reduceToNat, Int.reduceMul, Int.reduceAdd, Int.reduceSub, Int.reduceNeg, Int.reduceEq, reduceCtorEq, Nat.reduceMod, Int.reduceBNe, Int.reduceBEq, Int.reduceGT, Int.reduceGE, Int.reduceNe, Int.cast_ofNat_Int, Int.natCast_zero, Int.natCast_one, bne_self_eq_false, gt_iff_lt, ge_iff_le, Int.lt_irrefl, Int.le_refl, Nat.reduceDiv, he, hf, mkL_len]
              refine loop_l (α := Nat) (grF all others) (fun i => all.length - i) (fun i => i ≤ all.length) 0 (by simp -implicitDefEqProofs only [go_sem, reduceIte, Nat.reduceAdd, Nat.reduceSub, Nat.reduceMul, Nat.reduceLT, Nat.reduceLeDiff, Nat.reduceEqDiff, Nat.reduceBEq, Int.reduceLE, Int.reduceLT, Int.reduceToNat, Int.reduceMul, Int.reduceAdd, Int.reduceSub, Int.reduceNeg, Int.reduceEq, reduceCtorEq, Nat.reduceMod, grF]; rfl) (Nat.zero_le _) ?_
              intro i hi R hR
              have hb32 : (befV (mkL all i) i).length = 32 := befV_len (mkL_OK all _) _
              simp -implicitDefEqProofs only [go_sem, reduceIte, Nat.reduceAdd, Nat.reduceSub, Nat.reduceMul, Nat.reduceLT, Nat.reduceLeDiff, Nat.reduceEqDiff, Nat.reduceBEq, Int.reduceLE, Int.reduceLT, Int.reduceToNat, Int.reduceMul, Int.reduceAdd, Int.reduceSub, Int.reduceNeg, Int.reduceEq, reduceCtorEq, Nat.reduceMod, Int.reduceBNe, Int.reduceBEq, Int.reduceGT, Int.reduceGE, Int.reduceNe, Int.cast_ofNat_Int, Int.natCast_zero, Int.natCast_one, bne_self_eq_false, gt_iff_lt, ge_iff_le, Int.lt_irrefl, Int.le_refl, Nat.reduceDiv, grF]
              refine wcond_mk (fun hh => ?_) (fun hh => ?_)
              · have hi' : i < all.length := by have := of_decide_eq_true hh; omega
                have hil : i < (mkL all all.length).length := by rw [mkL_len]; exact hi'
                have hii : (i : Int) < (all.length : Int) := by omega
                have hA := s_AddT (mkL all i) (mkL_OK all i) all[i]
                have hE0 : headE (mkL all i) = 0 := mk_headE hs (by omega) (by omega)
                have haE : addE (mkL all i) all[i] = 0 := by
                  unfold addE
                  rw [if_pos hE0, if_pos (by rw [mkL_len]; omega), if_pos (hs i hi')]
                have haW : addW (mkL all i) all[i] = mkL all (i + 1) := by
                  unfold addW
                  rw [if_pos haE, mkL_step hi']
                  unfold addL
                  rw [mk_headV hs (show i ≤ all.length by omega) (by omega), mkL_len]
                rw [haE, haW] at hA
                have hdl := hs i hi'
                have hst := s_law44_step (befV (mkL all i) i) i (ofV all[i]) hb32 (by omega) (ofV_len _)
                have hn32 : (stepV (befV (mkL all i) i) i (ofV all[i])).length = 32 := stepV_len _ _ _
                have hof := ofV_len all[i]
                have hF := s_chain_First (mkL all i) (mkL_OK all i)
                rw [mk_fst hs (show i ≤ all.length by omega) (by omega), mk_check hs (show i ≤ all.length by omega) (by omega)] at hF
                have hlt : List.take i (lnT (mkL all all.length)) = lnT (mkL all i) := by
                  rw [← mkL_take all (show i ≤ all.length by omega)]
                  simp [lnT]
                simp -implicitDefEqProofs only [go_sem, reduceIte, Nat.reduceAdd, Nat.reduceSub, Nat.reduceMul, Nat.reduceLT, Nat.reduceLeDiff, Nat.reduceEqDiff, Nat.reduceBEq, Int.reduceLE, Int.reduceLT, Int.reduceToNat, Int.reduceMul, Int.reduceAdd, Int.reduceSub, Int.reduceNeg, Int.reduceEq, reduceCtorEq, Nat.reduceMod, Int.reduceBNe, Int.reduceBEq, Int.reduceGT, Int.reduceGE, Int.reduceNe, Int.cast_ofNat_Int, Int.natCast_zero, Int.natCast_one, bne_self_eq_false, gt_iff_lt, ge_iff_le, Int.lt_irrefl, Int.le_refl, Nat.reduceDiv, catE_get hi', eq_true hii]
                first | refine call_k hA ?_ | refine call_d hA ?_
                simp -implicitDefEqProofs only [go_sem, reduceIte, Nat.reduceAdd, Nat.reduceSub, Nat.reduceMul, Nat.reduceLT, Nat.reduceLeDiff, Nat.reduceEqDiff, Nat.reduceBEq, Int.reduceLE, Int.reduceLT, Int.reduceToNat, Int.reduceMul, Int.reduceAdd, Int.reduceSub, Int.reduceNeg, Int.reduceEq, reduceCtorEq, Nat.reduceMod, Int.reduceBNe, Int.reduceBEq, Int.reduceGT, Int.reduceGE, Int.reduceNe, Int.cast_ofNat_Int, Int.natCast_zero, Int.natCast_one, bne_self_eq_false, gt_iff_lt, ge_iff_le, Int.lt_irrefl, Int.le_refl, Nat.reduceDiv, catE_get hi', eq_true hii]
                first | refine call_k (s_Sum' all[i] (by omega)) ?_ | refine call_d (s_Sum' all[i] (by omega)) ?_
                simp -implicitDefEqProofs only [go_sem, reduceIte, Nat.reduceAdd, Nat.reduceSub, Nat.reduceMul, Nat.reduceLT, Nat.reduceLeDiff, Nat.reduceEqDiff, Nat.reduceBEq, Int.reduceLE, Int.reduceLT, Int.reduceToNat, Int.reduceMul, Int.reduceAdd, Int.reduceSub, Int.reduceNeg, Int.reduceEq, reduceCtorEq, Nat.reduceMod, Int.reduceBNe, Int.reduceBEq, Int.reduceGT, Int.reduceGE, Int.reduceNe, Int.cast_ofNat_Int, Int.natCast_zero, Int.natCast_one, bne_self_eq_false, gt_iff_lt, ge_iff_le, Int.lt_irrefl, Int.le_refl, Nat.reduceDiv, bN_map, hof, bC_take hof]
                refine ⟨bC_one _, by omega, ?_⟩
                simp -implicitDefEqProofs only [go_sem, reduceIte, Nat.reduceAdd, Nat.reduceSub, Nat.reduceMul, Nat.reduceLT, Nat.reduceLeDiff, Nat.reduceEqDiff, Nat.reduceBEq, Int.reduceLE, Int.reduceLT, Int.reduceToNat, Int.reduceMul, Int.reduceAdd, Int.reduceSub, Int.reduceNeg, Int.reduceEq, reduceCtorEq, Nat.reduceMod, Int.reduceBNe, Int.reduceBEq, Int.reduceGT, Int.reduceGE, Int.reduceNe, Int.cast_ofNat_Int, Int.natCast_zero, Int.natCast_one, bne_self_eq_false, gt_iff_lt, ge_iff_le, Int.lt_irrefl, Int.le_refl, Nat.reduceDiv, bC_take hb32]
                first | refine call_k hst ?_ | refine call_d hst ?_
                have hEi : (mkL all all.length)[i].sum = stepV (befV (mkL all i) i) i (ofV all[i]) := by rw [mkL_get hi' (Nat.le_refl _) hil]
                have hbs : befV (mkL all (i + 1)) (i + 1) = stepV (befV (mkL all i) i) i (ofV all[i]) := befV_mk hi'
                have e1 : IntKind.i64.wrap ((i : Int) + 1) = ((i + 1 : Nat) : Int) := by rw [wrap_i64_id (by omega) (by omega)]; omega
                have e2 : ((i : Int) - 0).toNat = i := by omega
                generalize stepV (befV (mkL all i) i) i (ofV all[i]) = N at *
                simp -implicitDefEqProofs only [go_sem, reduceIte, Nat.reduceAdd, Nat.reduceSub, Nat.reduceMul, Nat.reduceLT, Nat.reduceLeDiff, Nat.reduceEqDiff, Nat.reduceBEq, Int.reduceLE, Int.reduceLT, Int.reduceToNat, Int.reduceMul, Int.reduceAdd, Int.reduceSub, Int.reduceNeg, Int.reduceEq, reduceCtorEq, Nat.reduceMod, Int.reduceBNe, Int.reduceBEq, Int.reduceGT, Int.reduceGE, Int.reduceNe, Int.cast_ofNat_Int, Int.natCast_zero, Int.natCast_one, bne_self_eq_false, gt_iff_lt, ge_iff_le, Int.lt_irrefl, Int.le_refl, Nat.reduceDiv, bN_map, hn32, bC_take hn32, mkL_len, e2, hlt]
                refine ⟨bC_one _, ⟨by omega, Or.inl trivial⟩, ?_⟩
                first | refine call_k hF ?_ | refine call_d hF ?_
                simp -implicitDefEqProofs only [go_sem, reduceIte, Nat.reduceAdd, Nat.reduceSub, Nat.reduceMul, Nat.reduceLT, Nat.reduceLeDiff, Nat.reduceEqDiff, Nat.reduceBEq, Int.reduceLE, Int.reduceLT, Int.reduceToNat, Int.reduceMul, Int.reduceAdd, Int.reduceSub, Int.reduceNeg, Int.reduceEq, reduceCtorEq, Nat.reduceMod, Int.reduceBNe, Int.reduceBEq, Int.reduceGT, Int.reduceGE, Int.reduceNe, Int.cast_ofNat_Int, Int.natCast_zero, Int.natCast_one, bne_self_eq_false, gt_iff_lt, ge_iff_le, Int.lt_irrefl, Int.le_refl, Nat.reduceDiv, bN_map, hn32, bC_take hn32, mkL_len, e2, hlt, lnT_get hil, hEi, eq_true hii, bN_take hn32, plains_bC, eqCells_bN N N rfl, e1]
                refine ⟨bN_isI _, ⟨bC_one _, by omega⟩, hR (i + 1) _ ?_ (by omega) (by omega)⟩
                simp -implicitDefEqProofs only [go_sem, reduceIte, Nat.reduceAdd, Nat.reduceSub, Nat.reduceMul, Nat.reduceLT, Nat.reduceLeDiff, Nat.reduceEqDiff, Nat.reduceBEq, Int.reduceLE, Int.reduceLT, Int.reduceToNat, Int.reduceMul, Int.reduceAdd, Int.reduceSub, Int.reduceNeg, Int.reduceEq, reduceCtorEq, Nat.reduceMod, Int.reduceBNe, Int.reduceBEq, Int.reduceGT, Int.reduceGE, Int.reduceNe, Int.cast_ofNat_Int, Int.natCast_zero, Int.natCast_one, bne_self_eq_false, gt_iff_lt, ge_iff_le, Int.lt_irrefl, Int.le_refl, Nat.reduceDiv, grF, hbs, List.drop_of_length_le (show (bC (befV (mkL all i) i)).length ≤ 32 by rw [bC_len]; omega)]
              · have hil : i = all.length := by have := of_decide_eq_false hh; omega
                subst hil
                clear hR
                simp -implicitDefEqProofs only [go_sem, reduceIte, Nat.reduceAdd, Nat.reduceSub, Nat.reduceMul, Nat.reduceLT, Nat.reduceLeDiff, Nat.reduceEqDiff, Nat.reduceBEq, Int.reduceLE, Int.reduceLT, Int.reduceToNat, Int.reduceMul, Int.reduceAdd, Int.reduceSub, Int.reduceNeg, Int.reduceEq, reduceCtorEq, Nat.reduceMod, Int.reduceBNe, Int.reduceBEq, Int.reduceGT, Int.reduceGE, Int.reduceNe, Int.cast_ofNat_Int, Int.natCast_zero, Int.natCast_one, bne_self_eq_false, gt_iff_lt, ge_iff_le, Int.lt_irrefl, Int.le_refl, Nat.reduceDiv]
                refine loop_l (α := Nat) (gsF all others) (fun j => all.length - j) (fun j => j ≤ all.length ∧ j ≤ others.length ∧ ∀ q (h1 : q < all.length) (h2 : q < others.length), q < j → all[q] = others[q]) 0 (by simp -implicitDefEqProofs only [go_sem, reduceIte, Nat.reduceAdd, Nat.reduceSub, Nat.reduceMul, Nat.reduceLT, Nat.reduceLeDiff, Nat.reduceEqDiff, Nat.reduceBEq, Int.reduceLE, Int.reduceLT, Int.reduceToNat, Int.reduceMul, Int.reduceAdd, Int.reduceSub, Int.reduceNeg, Int.reduceEq, reduceCtorEq, Nat.reduceMod, gsF]; rfl) ⟨Nat.zero_le _, Nat.zero_le _, fun q _ _ h => by omega⟩ ?_
                clear R
                intro j hj R hR
                obtain ⟨hj1, hj2, hjq⟩ := hj
                have hC := s_chain_Common (mkL all all.length) (mkL others others.length) (mkL_OK all _) (mkL_OK others _)
                have hcE : comE (mkL all all.length) (mkL others others.length) = 0 := by
                  unfold comE
                  rw [if_pos (mk_headE hs (Nat.le_refl _) (by omega))]
                  exact mk_headE ht (Nat.le_refl _) (by omega)
                have hcV : comV (mkL all all.length) (mkL others others.length) = (comN (mkL all all.length) (mkL others others.length) : Int) := if_pos hcE
                rw [hcE, hcV] at hC
                have hcj := com_pre (Nat.le_refl all.length) (Nat.le_refl others.length) hj1 hj2 hjq
                have hS := s_ref44_Same (mkL all all.length) (mkL all all.length) (mkL_OK all _) (mkL_OK all _) (by rw [mkL_len]; omega) (by rw [mkL_len]; omega)
                rw [show (mkL all all.length == mkL all all.length) = true by simp] at hS
                by_cases h1 : j < all.length
                · by_cases h2 : j < others.length
                  · have h1' : ((j : Int) < (all.length : Int)) = True := eq_true (by omega)
                    have h2' : ((j : Int) < (others.length : Int)) = True := eq_true (by omega)
                    simp -implicitDefEqProofs only [go_sem, reduceIte, Nat.reduceAdd, Nat.reduceSub, Nat.reduceMul, Nat.reduceLT, Nat.reduceLeDiff, Nat.reduceEqDiff, Nat.reduceBEq, Int.reduceLE, Int.reduceLT, Int.reduceToNat, Int.reduceMul, Int.reduceAdd, Int.reduceSub, Int.reduceNeg, Int.reduceEq, reduceCtorEq, Nat.reduceMod, Int.reduceBNe, Int.reduceBEq, Int.reduceGT, Int.reduceGE, Int.reduceNe, Int.cast_ofNat_Int, Int.natCast_zero, Int.natCast_one, bne_self_eq_false, gt_iff_lt, ge_iff_le, Int.lt_irrefl, Int.le_refl, Nat.reduceDiv, gsF, h1', h2', catE_get h1, catE_get h2, strB_eq]
                    refine ⟨areBytes_bT _, areBytes_bT _, ?_⟩
                    refine wcond_mk (fun hh => ?_) (fun hh => ?_)
                    · simp -implicitDefEqProofs only [go_sem, reduceIte, Nat.reduceAdd, Nat.reduceSub, Nat.reduceMul, Nat.reduceLT, Nat.reduceLeDiff, Nat.reduceEqDiff, Nat.reduceBEq, Int.reduceLE, Int.reduceLT, Int.reduceToNat, Int.reduceMul, Int.reduceAdd, Int.reduceSub, Int.reduceNeg, Int.reduceEq, reduceCtorEq, Nat.reduceMod, Int.reduceBNe, Int.reduceBEq, Int.reduceGT, Int.reduceGE, Int.reduceNe, Int.cast_ofNat_Int, Int.natCast_zero, Int.natCast_one, bne_self_eq_false, gt_iff_lt, ge_iff_le, Int.lt_irrefl, Int.le_refl, Nat.reduceDiv]
                      have e1 : IntKind.i64.wrap ((j : Int) + 1) = ((j + 1 : Nat) : Int) := by rw [wrap_i64_id (by omega) (by omega)]; omega
                      refine hR (j + 1) _ (by simp -implicitDefEqProofs only [go_sem, reduceIte, Nat.reduceAdd, Nat.reduceSub, Nat.reduceMul, Nat.reduceLT, Nat.reduceLeDiff, Nat.reduceEqDiff, Nat.reduceBEq, Int.reduceLE, Int.reduceLT, Int.reduceToNat, Int.reduceMul, Int.reduceAdd, Int.reduceSub, Int.reduceNeg, Int.reduceEq, reduceCtorEq, Nat.reduceMod, gsF, e1]) ⟨h1, h2, fun q hq1 hq2 hq => ?_⟩ (by omega)
                      rcases Nat.lt_or_ge q j with h | h
                      · exact hjq q hq1 hq2 h
                      · obtain rfl : q = j := by omega
                        exact beq_iff_eq.1 hh
                    · simp -implicitDefEqProofs only [go_sem, reduceIte, Nat.reduceAdd, Nat.reduceSub, Nat.reduceMul, Nat.reduceLT, Nat.reduceLeDiff, Nat.reduceEqDiff, Nat.reduceBEq, Int.reduceLE, Int.reduceLT, Int.reduceToNat, Int.reduceMul, Int.reduceAdd, Int.reduceSub, Int.reduceNeg, Int.reduceEq, reduceCtorEq, Nat.reduceMod, Int.reduceBNe, Int.reduceBEq, Int.reduceGT, Int.reduceGE, Int.reduceNe, Int.cast_ofNat_Int, Int.natCast_zero, Int.natCast_one, bne_self_eq_false, gt_iff_lt, ge_iff_le, Int.lt_irrefl, Int.le_refl, Nat.reduceDiv]
                      clear hR R
                      first | refine call_k hC ?_ | refine call_d hC ?_
                      have hB := s_ref44_Before (mkL all all.length) (mkL_OK all _) j (by rw [mkL_len]; omega) (by rw [mkL_len]; omega)
                      have hB32 : (befV (mkL all all.length) j).length = 32 := befV_len (mkL_OK all _) _
                      have hd1 := hs j h1
                      have hd2 := ht j h2
                      have hR1 := s_ref44_Right (befV (mkL all all.length) j) j all[j] hB32 (by omega) (by omega)
                      have hR2 := s_ref44_Right (befV (mkL all all.length) j) j others[j] hB32 (by omega) (by omega)
                      have hl1 : (stepV (befV (mkL all all.length) j) j (ofV all[j])).length = 32 := stepV_len _ _ _
                      have hl2 : (stepV (befV (mkL all all.length) j) j (ofV others[j])).length = 32 := stepV_len _ _ _
                      have hne := com_ne h1 h2 (Nat.le_refl all.length) (Nat.le_refl others.length) hjq
                      generalize stepV (befV (mkL all all.length) j) j (ofV all[j]) = U at *
                      generalize stepV (befV (mkL all all.length) j) j (ofV others[j]) = V at *
                      simp -implicitDefEqProofs only [go_sem, reduceIte, Nat.reduceAdd, Nat.reduceSub, Nat.reduceMul, Nat.reduceLT, Nat.reduceLeDiff, Nat.reduceEqDiff, Nat.reduceBEq, Int.reduceLE, Int.reduceLT, Int.reduceToNat, Int.reduceMul, Int.reduceAdd, Int.reduceSub, Int.reduceNeg, Int.reduceEq, reduceCtorEq, Nat.reduceMod, Int.reduceBNe, Int.reduceBEq, Int.reduceGT, Int.reduceGE, Int.reduceNe, Int.cast_ofNat_Int, Int.natCast_zero, Int.natCast_one, bne_self_eq_false, gt_iff_lt, ge_iff_le, Int.lt_irrefl, Int.le_refl, Nat.reduceDiv, mkL_len, h1', h2']
                      first | refine call_k hB ?_ | refine call_d hB ?_
                      simp -implicitDefEqProofs only [go_sem, reduceIte, Nat.reduceAdd, Nat.reduceSub, Nat.reduceMul, Nat.reduceLT, Nat.reduceLeDiff, Nat.reduceEqDiff, Nat.reduceBEq, Int.reduceLE, Int.reduceLT, Int.reduceToNat, Int.reduceMul, Int.reduceAdd, Int.reduceSub, Int.reduceNeg, Int.reduceEq, reduceCtorEq, Nat.reduceMod, Int.reduceBNe, Int.reduceBEq, Int.reduceGT, Int.reduceGE, Int.reduceNe, Int.cast_ofNat_Int, Int.natCast_zero, Int.natCast_one, bne_self_eq_false, gt_iff_lt, ge_iff_le, Int.lt_irrefl, Int.le_refl, Nat.reduceDiv, hB32, bN_map, bC_take hB32, catE_get h1, catE_get h2]
                      first | refine call_k hR1 ?_ | refine call_d hR1 ?_
                      simp -implicitDefEqProofs only [go_sem, reduceIte, Nat.reduceAdd, Nat.reduceSub, Nat.reduceMul, Nat.reduceLT, Nat.reduceLeDiff, Nat.reduceEqDiff, Nat.reduceBEq, Int.reduceLE, Int.reduceLT, Int.reduceToNat, Int.reduceMul, Int.reduceAdd, Int.reduceSub, Int.reduceNeg, Int.reduceEq, reduceCtorEq, Nat.reduceMod, Int.reduceBNe, Int.reduceBEq, Int.reduceGT, Int.reduceGE, Int.reduceNe, Int.cast_ofNat_Int, Int.natCast_zero, Int.natCast_one, bne_self_eq_false, gt_iff_lt, ge_iff_le, Int.lt_irrefl, Int.le_refl, Nat.reduceDiv, hB32, bN_map, bC_take hB32, catE_get h1, catE_get h2, hl1]
                      first | refine call_k hB ?_ | refine call_d hB ?_
                      simp -implicitDefEqProofs only [go_sem, reduceIte, Nat.reduceAdd, Nat.reduceSub, Nat.reduceMul, Nat.reduceLT, Nat.reduceLeDiff, Nat.reduceEqDiff, Nat.reduceBEq, Int.reduceLE, Int.reduceLT, Int.reduceToNat, Int.reduceMul, Int.reduceAdd, Int.reduceSub, Int.reduceNeg, Int.reduceEq, reduceCtorEq, Nat.reduceMod, Int.reduceBNe, Int.reduceBEq, Int.reduceGT, Int.reduceGE, Int.reduceNe, Int.cast_ofNat_Int, Int.natCast_zero, Int.natCast_one, bne_self_eq_false, gt_iff_lt, ge_iff_le, Int.lt_irrefl, Int.le_refl, Nat.reduceDiv, hB32, bN_map, bC_take hB32, catE_get h1, catE_get h2]
                      first | refine call_k hR2 ?_ | refine call_d hR2 ?_
                      simp -implicitDefEqProofs only [go_sem, reduceIte, Nat.reduceAdd, Nat.reduceSub, Nat.reduceMul, Nat.reduceLT, Nat.reduceLeDiff, Nat.reduceEqDiff, Nat.reduceBEq, Int.reduceLE, Int.reduceLT, Int.reduceToNat, Int.reduceMul, Int.reduceAdd, Int.reduceSub, Int.reduceNeg, Int.reduceEq, reduceCtorEq, Nat.reduceMod, Int.reduceBNe, Int.reduceBEq, Int.reduceGT, Int.reduceGE, Int.reduceNe, Int.cast_ofNat_Int, Int.natCast_zero, Int.natCast_one, bne_self_eq_false, gt_iff_lt, ge_iff_le, Int.lt_irrefl, Int.le_refl, Nat.reduceDiv, hl1, hl2, eqCells_bN U V (hl1.trans hl2.symm)]
                      refine ⟨bN_isI _, ?_⟩
                      refine wcond_mk (fun hh2 => ?_) (fun hh2 => ?_)
                      · have hge : ((j : Int) ≤ (comN (mkL all all.length) (mkL others others.length) : Int)) = True := eq_true (by omega)
                        simp -implicitDefEqProofs only [go_sem, reduceIte, Nat.reduceAdd, Nat.reduceSub, Nat.reduceMul, Nat.reduceLT, Nat.reduceLeDiff, Nat.reduceEqDiff, Nat.reduceBEq, Int.reduceLE, Int.reduceLT, Int.reduceToNat, Int.reduceMul, Int.reduceAdd, Int.reduceSub, Int.reduceNeg, Int.reduceEq, reduceCtorEq, Nat.reduceMod, Int.reduceBNe, Int.reduceBEq, Int.reduceGT, Int.reduceGE, Int.reduceNe, Int.cast_ofNat_Int, Int.natCast_zero, Int.natCast_one, bne_self_eq_false, gt_iff_lt, ge_iff_le, Int.lt_irrefl, Int.le_refl, Nat.reduceDiv, hge]
                      · have heq := hne (beq_eq_false_iff_ne.1 hh2)
                        rw [heq, Nat.add_zero] at hcj
                        simp -implicitDefEqProofs only [go_sem, reduceIte, Nat.reduceAdd, Nat.reduceSub, Nat.reduceMul, Nat.reduceLT, Nat.reduceLeDiff, Nat.reduceEqDiff, Nat.reduceBEq, Int.reduceLE, Int.reduceLT, Int.reduceToNat, Int.reduceMul, Int.reduceAdd, Int.reduceSub, Int.reduceNeg, Int.reduceEq, reduceCtorEq, Nat.reduceMod, Int.reduceBNe, Int.reduceBEq, Int.reduceGT, Int.reduceGE, Int.reduceNe, Int.cast_ofNat_Int, Int.natCast_zero, Int.natCast_one, bne_self_eq_false, gt_iff_lt, ge_iff_le, Int.lt_irrefl, Int.le_refl, Nat.reduceDiv]
                        first | refine call_k hS ?_ | refine call_d hS ?_
                        simp -implicitDefEqProofs only [go_sem, reduceIte, Nat.reduceAdd, Nat.reduceSub, Nat.reduceMul, Nat.reduceLT, Nat.reduceLeDiff, Nat.reduceEqDiff, Nat.reduceBEq, Int.reduceLE, Int.reduceLT, Int.reduceToNat, Int.reduceMul, Int.reduceAdd, Int.reduceSub, Int.reduceNeg, Int.reduceEq, reduceCtorEq, Nat.reduceMod, Int.reduceBNe, Int.reduceBEq, Int.reduceGT, Int.reduceGE, Int.reduceNe, Int.cast_ofNat_Int, Int.natCast_zero, Int.natCast_one, bne_self_eq_false, gt_iff_lt, ge_iff_le, Int.lt_irrefl, Int.le_refl, Nat.reduceDiv, hcj]
                  · have h1' : ((j : Int) < (all.length : Int)) = True := eq_true (by omega)
                    have h2' : ((j : Int) < (others.length : Int)) = False := eq_false (by omega)
                    simp -implicitDefEqProofs only [go_sem, reduceIte, Nat.reduceAdd, Nat.reduceSub, Nat.reduceMul, Nat.reduceLT, Nat.reduceLeDiff, Nat.reduceEqDiff, Nat.reduceBEq, Int.reduceLE, Int.reduceLT, Int.reduceToNat, Int.reduceMul, Int.reduceAdd, Int.reduceSub, Int.reduceNeg, Int.reduceEq, reduceCtorEq, Nat.reduceMod, Int.reduceBNe, Int.reduceBEq, Int.reduceGT, Int.reduceGE, Int.reduceNe, Int.cast_ofNat_Int, Int.natCast_zero, Int.natCast_one, bne_self_eq_false, gt_iff_lt, ge_iff_le, Int.lt_irrefl, Int.le_refl, Nat.reduceDiv, gsF, h1', h2']
                    rw [hcj, comN_end (by rw [mkL_len, mkL_len]; omega), Nat.add_zero] at hC
                    first | refine call_k hC ?_ | refine call_d hC ?_
                    simp -implicitDefEqProofs only [go_sem, reduceIte, Nat.reduceAdd, Nat.reduceSub, Nat.reduceMul, Nat.reduceLT, Nat.reduceLeDiff, Nat.reduceEqDiff, Nat.reduceBEq, Int.reduceLE, Int.reduceLT, Int.reduceToNat, Int.reduceMul, Int.reduceAdd, Int.reduceSub, Int.reduceNeg, Int.reduceEq, reduceCtorEq, Nat.reduceMod, Int.reduceBNe, Int.reduceBEq, Int.reduceGT, Int.reduceGE, Int.reduceNe, Int.cast_ofNat_Int, Int.natCast_zero, Int.natCast_one, bne_self_eq_false, gt_iff_lt, ge_iff_le, Int.lt_irrefl, Int.le_refl, Nat.reduceDiv, mkL_len, h1', h2']
                    first | refine call_k hS ?_ | refine call_d hS ?_
                    simp -implicitDefEqProofs only [go_sem, reduceIte, Nat.reduceAdd, Nat.reduceSub, Nat.reduceMul, Nat.reduceLT, Nat.reduceLeDiff, Nat.reduceEqDiff, Nat.reduceBEq, Int.reduceLE, Int.reduceLT, Int.reduceToNat, Int.reduceMul, Int.reduceAdd, Int.reduceSub, Int.reduceNeg, Int.reduceEq, reduceCtorEq, Nat.reduceMod, Int.reduceBNe, Int.reduceBEq, Int.reduceGT, Int.reduceGE, Int.reduceNe, Int.cast_ofNat_Int, Int.natCast_zero, Int.natCast_one, bne_self_eq_false, gt_iff_lt, ge_iff_le, Int.lt_irrefl, Int.le_refl, Nat.reduceDiv]
                · have h1' : ((j : Int) < (all.length : Int)) = False := eq_false (by omega)
                  simp -implicitDefEqProofs only [go_sem, reduceIte, Nat.reduceAdd, Nat.reduceSub, Nat.reduceMul, Nat.reduceLT, Nat.reduceLeDiff, Nat.reduceEqDiff, Nat.reduceBEq, Int.reduceLE, Int.reduceLT, Int.reduceToNat, Int.reduceMul, Int.reduceAdd, Int.reduceSub, Int.reduceNeg, Int.reduceEq, reduceCtorEq, Nat.reduceMod, Int.reduceBNe, Int.reduceBEq, Int.reduceGT, Int.reduceGE, Int.reduceNe, Int.cast_ofNat_Int, Int.natCast_zero, Int.natCast_one, bne_self_eq_false, gt_iff_lt, ge_iff_le, Int.lt_irrefl, Int.le_refl, Nat.reduceDiv, gsF, h1']
                  rw [hcj, comN_end (by rw [mkL_len, mkL_len]; omega), Nat.add_zero] at hC
                  first | refine call_k hC ?_ | refine call_d hC ?_
                  simp -implicitDefEqProofs only [go_sem, reduceIte, Nat.reduceAdd, Nat.reduceSub, Nat.reduceMul, Nat.reduceLT, Nat.reduceLeDiff, Nat.reduceEqDiff, Nat.reduceBEq, Int.reduceLE, Int.reduceLT, Int.reduceToNat, Int.reduceMul, Int.reduceAdd, Int.reduceSub, Int.reduceNeg, Int.reduceEq, reduceCtorEq, Nat.reduceMod, Int.reduceBNe, Int.reduceBEq, Int.reduceGT, Int.reduceGE, Int.reduceNe, Int.cast_ofNat_Int, Int.natCast_zero, Int.natCast_one, bne_self_eq_false, gt_iff_lt, ge_iff_le, Int.lt_irrefl, Int.le_refl, Nat.reduceDiv, mkL_len, h1']
                  first | refine call_k hS ?_ | refine call_d hS ?_
                  simp -implicitDefEqProofs only [go_sem, reduceIte, Nat.reduceAdd, Nat.reduceSub, Nat.reduceMul, Nat.reduceLT, Nat.reduceLeDiff, Nat.reduceEqDiff, Nat.reduceBEq, Int.reduceLE, Int.reduceLT, Int.reduceToNat, Int.reduceMul, Int.reduceAdd, Int.reduceSub, Int.reduceNeg, Int.reduceEq, reduceCtorEq, Nat.reduceMod, Int.reduceBNe, Int.reduceBEq, Int.reduceGT, Int.reduceGE, Int.reduceNe, Int.cast_ofNat_Int, Int.natCast_zero, Int.natCast_one, bne_self_eq_false, gt_iff_lt, ge_iff_le, Int.lt_irrefl, Int.le_refl, Nat.reduceDiv]
            · rw [makeE_len hf c2]
              simp -implicitDefEqProofs only [go_sem, reduceIte, Nat.reduceAdd, Nat.reduceSub, Nat.reduceMul, Nat.reduceLT, Nat.reduceLeDiff, Nat.reduceEqDiff, Nat.reduceBEq, Int.reduceLE, Int.reduceLT, Int.reduceToNat, Int.reduceMul, Int.reduceAdd, Int.reduceSub, Int.reduceNeg, Int.reduceEq, reduceCtorEq, Nat.reduceMod, Int.reduceBNe, Int.reduceBEq, Int.reduceGT, Int.reduceGE, Int.reduceNe, Int.cast_ofNat_Int, Int.natCast_zero, Int.natCast_one, bne_self_eq_false, gt_iff_lt, ge_iff_le, Int.lt_irrefl, Int.le_refl, Nat.reduceDiv, he]
          · rw [makeE_len he c1]
            simp -implicitDefEqProofs only [go_sem, reduceIte, Nat.reduceAdd, Nat.reduceSub, Nat.reduceMul, Nat.reduceLT, Nat.reduceLeDiff, Nat.reduceEqDiff, Nat.reduceBEq, Int.reduceLE, Int.reduceLT, Int.reduceToNat, Int.reduceMul, Int.reduceAdd, Int.reduceSub, Int.reduceNeg, Int.reduceEq, reduceCtorEq, Nat.reduceMod, Int.reduceBNe, Int.reduceBEq, Int.reduceGT, Int.reduceGE, Int.reduceNe, Int.cast_ofNat_Int, Int.natCast_zero, Int.natCast_one, bne_self_eq_false, gt_iff_lt, ge_iff_le, Int.lt_irrefl, Int.le_refl, Nat.reduceDiv]
        · have c2' : ((12 : Int) < (others.length : Int)) = True := eq_true (by omega)
          simp -implicitDefEqProofs only [go_sem, reduceIte, Nat.reduceAdd, Nat.reduceSub, Nat.reduceMul, Nat.reduceLT, Nat.reduceLeDiff, Nat.reduceEqDiff, Nat.reduceBEq, Int.reduceLE, Int.reduceLT, Int.reduceToNat, Int.reduceMul, Int.reduceAdd, Int.reduceSub, Int.reduceNeg, Int.reduceEq, reduceCtorEq, Nat.reduceMod, Int.reduceBNe, Int.reduceBEq, Int.reduceGT, Int.reduceGE, Int.reduceNe, Int.cast_ofNat_Int, Int.natCast_zero, Int.natCast_one, bne_self_eq_false, gt_iff_lt, ge_iff_le, Int.lt_irrefl, Int.le_refl, Nat.reduceDiv, c2']
    · have c1' : ((12 : Int) < (all.length : Int)) = True := eq_true (by omega)
      simp -implicitDefEqProofs only [go_sem, reduceIte, Nat.reduceAdd, Nat.reduceSub, Nat.reduceMul, Nat.reduceLT, Nat.reduceLeDiff, Nat.reduceEqDiff, Nat.reduceBEq, Int.reduceLE, Int.reduceLT, Int.reduceToNat, Int.reduceMul, Int.reduceAdd, Int.reduceSub, Int.reduceNeg, Int.reduceEq, reduceCtorEq, Nat.reduceMod, Int.reduceBNe, Int.reduceBEq, Int.reduceGT, Int.reduceGE, Int.reduceNe, Int.cast_ofNat_Int, Int.natCast_zero, Int.natCast_one, bne_self_eq_false, gt_iff_lt, ge_iff_le, Int.lt_irrefl, Int.le_refl, Nat.reduceDiv, c1']
end Go.Proofs.YtgkmhmhbepfiaaaDoor.Pm
