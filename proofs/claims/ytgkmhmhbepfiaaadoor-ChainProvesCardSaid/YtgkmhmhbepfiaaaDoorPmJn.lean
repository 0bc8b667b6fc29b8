/- ChainProves. -/
import Derived.Test.YtgkmhmhbepfiaaaDoorPmMh
import Derived.Test.YtgkmhmhbepfiaaaDoorPmJs
set_option linter.all false
set_option maxRecDepth 100000
set_option maxHeartbeats 4000000
namespace Go.Proofs.YtgkmhmhbepfiaaaDoor.Pm
open Go Go.RowKit

theorem proveE_0 {l : List Lnk} {n : Int} (h : proveE l n = 0) : headE l = 0 ∧ 0 ≤ n ∧ n < l.length := by
  unfold proveE at h
  split at h
  · split at h
    · rename_i h1 h2; exact ⟨h1, h2.1, h2.2⟩
    · cases h
  · exact absurd h (by assumption)
theorem s_ProveT (l : List Lnk) (hl : lnOK l) (hll : l.length ≤ 1000000) (n : Int) : Spec Tryd.prog 44 [.sl (lnT l), .i .i64 n] [] (.tup [.t (.agg (proveV l n).cells) true, .t (.i .i64 (proveE l n)) true]) := by
  by_cases he : proveE l n = 0
  · obtain ⟨h0, h1, h2⟩ := proveE_0 he
    obtain ⟨k, rfl⟩ : ∃ k : Nat, n = k := ⟨n.toNat, by omega⟩
    rw [show proveV l (k : Int) = witV l k by unfold proveV; rw [if_pos he, Int.toNat_natCast], he]
    exact s_chain_Prove l hl k (by omega) h0
  · rw [show proveV l n = Wit.zero from if_neg he]
    exact s_chain_ProveN l hl hll n he
theorem s_rProveT (l : List Lnk) (hl : lnOK l) (hll : l.length ≤ 1000000) (n : Int) : Spec Tryd.prog 45 [.sl (lnT l), .i .i64 n] [] (.tup [.t (.agg (proveV l n).cells) true, .t (.i .i64 (proveE l n)) true]) := by
  by_cases he : proveE l n = 0
  · obtain ⟨h0, h1, h2⟩ := proveE_0 he
    obtain ⟨k, rfl⟩ : ∃ k : Nat, n = k := ⟨n.toNat, by omega⟩
    rw [show proveV l (k : Int) = witV l k by unfold proveV; rw [if_pos he, Int.toNat_natCast], he]
    exact s_ref44_Prove l hl k (by omega) h0
  · rw [show proveV l n = Wit.zero from if_neg he]
    exact s_ref44_ProveN l hl hll n he
theorem witV_fine {l : List Lnk} (hl : lnOK l) (hd : ∀ x ∈ l, x.data.length ≤ 300) (hll : l.length ≤ 1000) {k : Nat} (hk : k < l.length) : (witV l k).fine := by
  refine ⟨befV_len hl k, fun d hd' => ?_, by simp only [witV]; omega, by simp only [witV]; omega, ?_, by simp [witV]; omega⟩
  · simp only [witV, List.mem_map] at hd'
    obtain ⟨x, _, rfl⟩ := hd'
    exact ofV_len _
  · simp only [witV, List.getElem?_eq_getElem hk, Option.map_some, Option.getD_some]
    have := hd _ (List.getElem_mem hk)
    omega
theorem zero_fine : Wit.zero.fine := ⟨rfl, by simp [Wit.zero], by simp [Wit.zero], by simp [Wit.zero], by simp [Wit.zero], by simp [Wit.zero]⟩
theorem proveV_fine {l : List Lnk} (hl : lnOK l) (hd : ∀ x ∈ l, x.data.length ≤ 300) (hll : l.length ≤ 1000) (n : Int) : (proveV l n).fine := by
  unfold proveV
  split
  · rename_i he
    obtain ⟨h0, h1, h2⟩ := proveE_0 he
    exact witV_fine hl hd hll (by omega)
  · exact zero_fine
theorem s_law44_ChainProves (a b : List Lnk) (n : Int) (hd : List (BitVec 8)) (w : Wit) (ha : lnOK a) (hb : lnOK b) (hla : a.length ≤ 140737488355328) (hlb : b.length ≤ 140737488355328) (hh : hd.length = 32)
    (wp : w.prev.length = 32) (wl : ∀ d ∈ w.later, d.length = 32) (wlo : -9223372036854775808 ≤ w.pos) (whi : w.pos ≤ 9223372036854775807) :
    Spec Tryd.prog 10 [.sl (lnT a), .sl (lnT b), .i .i64 n, .agg (bN hd), .agg w.cells] [] (.t (.b true) true) := by
  refine spec_k (hold mixed) b_law44_ChainProves [(.b true, true)] ?_
  have hPC := idC_F wp
  have a0 := fun X => hPC.at X 0
  have a1 := fun X => hPC.at X 1
  have t2 := fun X => hPC.tk X 2
  have hPl := hPC.len
  simp only [Nat.reduceAdd] at a0 a1 t2
  simp -implicitDefEqProofs only [go_sem, reduceIte, Nat.reduceAdd, Nat.reduceSub, Nat.reduceMul, Nat.reduceLT, Nat.reduceLeDiff, Nat.reduceEqDiff, Nat.reduceBEq, Int.reduceLE, Int.reduceLT, Int.reduceToNat, Int.reduceMul, Int.reduceAdd, Int.reduceSub, Int.reduceNeg, Int.reduceEq, reduceCtorEq, Nat.reduceMod, Int.reduceBNe, Int.reduceBEq, Int.reduceGT, Int.reduceGE, Int.reduceNe, Int.cast_ofNat_Int, Int.natCast_zero, Int.natCast_one, bne_self_eq_false, gt_iff_lt, ge_iff_le, Int.lt_irrefl, Int.le_refl, Nat.reduceDiv, List.map_append, bN_mapF]
  first | refine call_k (s_ref44_Great a ha hla) ?_ | refine call_d (s_ref44_Great a ha hla) ?_
  cases ga : greatL a with
  | true => simp -implicitDefEqProofs only [go_sem, reduceIte, Nat.reduceAdd, Nat.reduceSub, Nat.reduceMul, Nat.reduceLT, Nat.reduceLeDiff, Nat.reduceEqDiff, Nat.reduceBEq, Int.reduceLE, Int.reduceLT, Int.reduceToNat, Int.reduceMul, Int.reduceAdd, Int.reduceSub, Int.reduceNeg, Int.reduceEq, reduceCtorEq, Nat.reduceMod, Int.reduceBNe, Int.reduceBEq, Int.reduceGT, Int.reduceGE, Int.reduceNe, Int.cast_ofNat_Int, Int.natCast_zero, Int.natCast_one, bne_self_eq_false, gt_iff_lt, ge_iff_le, Int.lt_irrefl, Int.le_refl, Nat.reduceDiv, ga]
  | false =>
    obtain ⟨ga1, ga2⟩ := greatL_f ga
    simp -implicitDefEqProofs only [go_sem, reduceIte, Nat.reduceAdd, Nat.reduceSub, Nat.reduceMul, Nat.reduceLT, Nat.reduceLeDiff, Nat.reduceEqDiff, Nat.reduceBEq, Int.reduceLE, Int.reduceLT, Int.reduceToNat, Int.reduceMul, Int.reduceAdd, Int.reduceSub, Int.reduceNeg, Int.reduceEq, reduceCtorEq, Nat.reduceMod, Int.reduceBNe, Int.reduceBEq, Int.reduceGT, Int.reduceGE, Int.reduceNe, Int.cast_ofNat_Int, Int.natCast_zero, Int.natCast_one, bne_self_eq_false, gt_iff_lt, ge_iff_le, Int.lt_irrefl, Int.le_refl, Nat.reduceDiv]
    first | refine call_k (s_ref44_Great b hb hlb) ?_ | refine call_d (s_ref44_Great b hb hlb) ?_
    cases gb : greatL b with
    | true => simp -implicitDefEqProofs only [go_sem, reduceIte, Nat.reduceAdd, Nat.reduceSub, Nat.reduceMul, Nat.reduceLT, Nat.reduceLeDiff, Nat.reduceEqDiff, Nat.reduceBEq, Int.reduceLE, Int.reduceLT, Int.reduceToNat, Int.reduceMul, Int.reduceAdd, Int.reduceSub, Int.reduceNeg, Int.reduceEq, reduceCtorEq, Nat.reduceMod, Int.reduceBNe, Int.reduceBEq, Int.reduceGT, Int.reduceGE, Int.reduceNe, Int.cast_ofNat_Int, Int.natCast_zero, Int.natCast_one, bne_self_eq_false, gt_iff_lt, ge_iff_le, Int.lt_irrefl, Int.le_refl, Nat.reduceDiv, gb]
    | false =>
      obtain ⟨gb1, gb2⟩ := greatL_f gb
      by_cases c1 : w.data.length ≤ 300
      · have c1' : ((300 : Int) < (w.data.length : Int)) = False := eq_false (by omega)
        by_cases c2 : w.later.length ≤ 50
        · have c2' : ((50 : Int) < (w.later.length : Int)) = False := eq_false (by omega)
          have hw : w.fine := ⟨wp, wl, wlo, whi, by omega, by omega⟩
          have hap : ∀ h X Y, argCs h (bF w.prev ++ X) (bN w.prev ++ Y) = (True ∧ argCs h X Y) := fun h X Y => by
            rw [argCs_app h (by rw [bF_len, bN_len']), argCs_bF]
          simp -implicitDefEqProofs only [go_sem, reduceIte, Nat.reduceAdd, Nat.reduceSub, Nat.reduceMul, Nat.reduceLT, Nat.reduceLeDiff, Nat.reduceEqDiff, Nat.reduceBEq, Int.reduceLE, Int.reduceLT, Int.reduceToNat, Int.reduceMul, Int.reduceAdd, Int.reduceSub, Int.reduceNeg, Int.reduceEq, reduceCtorEq, Nat.reduceMod, Int.reduceBNe, Int.reduceBEq, Int.reduceGT, Int.reduceGE, Int.reduceNe, Int.cast_ofNat_Int, Int.natCast_zero, Int.natCast_one, bne_self_eq_false, gt_iff_lt, ge_iff_le, Int.lt_irrefl, Int.le_refl, Nat.reduceDiv, a0, a1, c1', c2']
          have hX := proveV_fine ha ga2 (by omega) n
          have P1 := s_ProveT a ha (by omega) n
          have P2 := s_rProveT a ha (by omega) n
          generalize proveV a n = X at *
          generalize proveE a n = pe at *
          have hXC := idC_C hX.p
          have x2 := fun Y => hXC.tk Y 2
          have d2 := fun Y => hXC.dr Y 2
          have hXl := hXC.len
          simp only [Nat.reduceAdd] at x2 d2
          have hapX : ∀ h U V, argCs h (bC X.prev ++ U) (bN X.prev ++ V) = (True ∧ argCs h U V) := fun h U V => by
            rw [argCs_app h (by rw [bC_len, bN_len']), argCs_bC]
          have hone : ∀ U : List AV, (∀ v ∈ U, v.one) → ∀ v ∈ bC X.prev ++ U, v.one := fun U hU v hv => by
            rcases List.mem_append.1 hv with h | h
            · exact bC_one _ v h
            · exact hU v h
          first | refine call_k P1 ?_ | refine call_d P1 ?_
          simp -implicitDefEqProofs only [go_sem, reduceIte, Nat.reduceAdd, Nat.reduceSub, Nat.reduceMul, Nat.reduceLT, Nat.reduceLeDiff, Nat.reduceEqDiff, Nat.reduceBEq, Int.reduceLE, Int.reduceLT, Int.reduceToNat, Int.reduceMul, Int.reduceAdd, Int.reduceSub, Int.reduceNeg, Int.reduceEq, reduceCtorEq, Nat.reduceMod, Int.reduceBNe, Int.reduceBEq, Int.reduceGT, Int.reduceGE, Int.reduceNe, Int.cast_ofNat_Int, Int.natCast_zero, Int.natCast_one, bne_self_eq_false, gt_iff_lt, ge_iff_le, Int.lt_irrefl, Int.le_refl, Nat.reduceDiv, List.map_append, bN_map, hXl, List.length_append, x2, d2]
          have hoX : ∀ v ∈ bC X.prev ++ [AV.t (T.sl (bT X.data)) true, AV.t (T.sl (idT X.later)) true], v.one := hone _ (by
            intro v hv
            simp only [List.mem_cons, List.not_mem_nil, or_false] at hv
            rcases hv with rfl | rfl <;> simp [AV.one, T.one])
          refine ⟨hoX, ?_⟩
          first | refine call_k P2 ?_ | refine call_d P2 ?_
          simp -implicitDefEqProofs only [go_sem, reduceIte, Nat.reduceAdd, Nat.reduceSub, Nat.reduceMul, Nat.reduceLT, Nat.reduceLeDiff, Nat.reduceEqDiff, Nat.reduceBEq, Int.reduceLE, Int.reduceLT, Int.reduceToNat, Int.reduceMul, Int.reduceAdd, Int.reduceSub, Int.reduceNeg, Int.reduceEq, reduceCtorEq, Nat.reduceMod, Int.reduceBNe, Int.reduceBEq, Int.reduceGT, Int.reduceGE, Int.reduceNe, Int.cast_ofNat_Int, Int.natCast_zero, Int.natCast_one, bne_self_eq_false, gt_iff_lt, ge_iff_le, Int.lt_irrefl, Int.le_refl, Nat.reduceDiv, List.map_append, bN_map, hXl, List.length_append, x2, d2]
          refine ⟨hoX, ?_⟩
          simp -implicitDefEqProofs only [go_sem, reduceIte, Nat.reduceAdd, Nat.reduceSub, Nat.reduceMul, Nat.reduceLT, Nat.reduceLeDiff, Nat.reduceEqDiff, Nat.reduceBEq, Int.reduceLE, Int.reduceLT, Int.reduceToNat, Int.reduceMul, Int.reduceAdd, Int.reduceSub, Int.reduceNeg, Int.reduceEq, reduceCtorEq, Nat.reduceMod, Int.reduceBNe, Int.reduceBEq, Int.reduceGT, Int.reduceGE, Int.reduceNe, Int.cast_ofNat_Int, Int.natCast_zero, Int.natCast_one, bne_self_eq_false, gt_iff_lt, ge_iff_le, Int.lt_irrefl, Int.le_refl, Nat.reduceDiv, hh, bF_take hh, hPl, List.length_append, t2, wp]
          first | refine call_k (s_AcceptT hd hh w hw) ?_ (by simp -implicitDefEqProofs only [go_sem, reduceIte, Nat.reduceAdd, Nat.reduceSub, Nat.reduceMul, Nat.reduceLT, Nat.reduceLeDiff, Nat.reduceEqDiff, Nat.reduceBEq, Int.reduceLE, Int.reduceLT, Int.reduceToNat, Int.reduceMul, Int.reduceAdd, Int.reduceSub, Int.reduceNeg, Int.reduceEq, reduceCtorEq, Nat.reduceMod, Int.reduceBNe, Int.reduceBEq, Int.reduceGT, Int.reduceGE, Int.reduceNe, Int.cast_ofNat_Int, Int.natCast_zero, Int.natCast_one, bne_self_eq_false, gt_iff_lt, ge_iff_le, Int.lt_irrefl, Int.le_refl, Nat.reduceDiv, hap]) | refine call_d (s_AcceptT hd hh w hw) ?_ (by simp -implicitDefEqProofs only [go_sem, reduceIte, Nat.reduceAdd, Nat.reduceSub, Nat.reduceMul, Nat.reduceLT, Nat.reduceLeDiff, Nat.reduceEqDiff, Nat.reduceBEq, Int.reduceLE, Int.reduceLT, Int.reduceToNat, Int.reduceMul, Int.reduceAdd, Int.reduceSub, Int.reduceNeg, Int.reduceEq, reduceCtorEq, Nat.reduceMod, Int.reduceBNe, Int.reduceBEq, Int.reduceGT, Int.reduceGE, Int.reduceNe, Int.cast_ofNat_Int, Int.natCast_zero, Int.natCast_one, bne_self_eq_false, gt_iff_lt, ge_iff_le, Int.lt_irrefl, Int.le_refl, Nat.reduceDiv, hap])
          simp -implicitDefEqProofs only [go_sem, reduceIte, Nat.reduceAdd, Nat.reduceSub, Nat.reduceMul, Nat.reduceLT, Nat.reduceLeDiff, Nat.reduceEqDiff, Nat.reduceBEq, Int.reduceLE, Int.reduceLT, Int.reduceToNat, Int.reduceMul, Int.reduceAdd, Int.reduceSub, Int.reduceNeg, Int.reduceEq, reduceCtorEq, Nat.reduceMod, Int.reduceBNe, Int.reduceBEq, Int.reduceGT, Int.reduceGE, Int.reduceNe, Int.cast_ofNat_Int, Int.natCast_zero, Int.natCast_one, bne_self_eq_false, gt_iff_lt, ge_iff_le, Int.lt_irrefl, Int.le_refl, Nat.reduceDiv, hh, bF_take hh, hPl, List.length_append, t2, wp]
          first | refine call_k (s_ref44_Accept hd hh w hw) ?_ (by simp -implicitDefEqProofs only [go_sem, reduceIte, Nat.reduceAdd, Nat.reduceSub, Nat.reduceMul, Nat.reduceLT, Nat.reduceLeDiff, Nat.reduceEqDiff, Nat.reduceBEq, Int.reduceLE, Int.reduceLT, Int.reduceToNat, Int.reduceMul, Int.reduceAdd, Int.reduceSub, Int.reduceNeg, Int.reduceEq, reduceCtorEq, Nat.reduceMod, Int.reduceBNe, Int.reduceBEq, Int.reduceGT, Int.reduceGE, Int.reduceNe, Int.cast_ofNat_Int, Int.natCast_zero, Int.natCast_one, bne_self_eq_false, gt_iff_lt, ge_iff_le, Int.lt_irrefl, Int.le_refl, Nat.reduceDiv, hap]) | refine call_d (s_ref44_Accept hd hh w hw) ?_ (by simp -implicitDefEqProofs only [go_sem, reduceIte, Nat.reduceAdd, Nat.reduceSub, Nat.reduceMul, Nat.reduceLT, Nat.reduceLeDiff, Nat.reduceEqDiff, Nat.reduceBEq, Int.reduceLE, Int.reduceLT, Int.reduceToNat, Int.reduceMul, Int.reduceAdd, Int.reduceSub, Int.reduceNeg, Int.reduceEq, reduceCtorEq, Nat.reduceMod, Int.reduceBNe, Int.reduceBEq, Int.reduceGT, Int.reduceGE, Int.reduceNe, Int.cast_ofNat_Int, Int.natCast_zero, Int.natCast_one, bne_self_eq_false, gt_iff_lt, ge_iff_le, Int.lt_irrefl, Int.le_refl, Nat.reduceDiv, hap])
          simp -implicitDefEqProofs only [go_sem, reduceIte, Nat.reduceAdd, Nat.reduceSub, Nat.reduceMul, Nat.reduceLT, Nat.reduceLeDiff, Nat.reduceEqDiff, Nat.reduceBEq, Int.reduceLE, Int.reduceLT, Int.reduceToNat, Int.reduceMul, Int.reduceAdd, Int.reduceSub, Int.reduceNeg, Int.reduceEq, reduceCtorEq, Nat.reduceMod, Int.reduceBNe, Int.reduceBEq, Int.reduceGT, Int.reduceGE, Int.reduceNe, Int.cast_ofNat_Int, Int.natCast_zero, Int.natCast_one, bne_self_eq_false, gt_iff_lt, ge_iff_le, Int.lt_irrefl, Int.le_refl, Nat.reduceDiv]
          first | refine call_k (s_chain_Common a b ha hb) ?_ | refine call_d (s_chain_Common a b ha hb) ?_
          simp -implicitDefEqProofs only [go_sem, reduceIte, Nat.reduceAdd, Nat.reduceSub, Nat.reduceMul, Nat.reduceLT, Nat.reduceLeDiff, Nat.reduceEqDiff, Nat.reduceBEq, Int.reduceLE, Int.reduceLT, Int.reduceToNat, Int.reduceMul, Int.reduceAdd, Int.reduceSub, Int.reduceNeg, Int.reduceEq, reduceCtorEq, Nat.reduceMod, Int.reduceBNe, Int.reduceBEq, Int.reduceGT, Int.reduceGE, Int.reduceNe, Int.cast_ofNat_Int, Int.natCast_zero, Int.natCast_one, bne_self_eq_false, gt_iff_lt, ge_iff_le, Int.lt_irrefl, Int.le_refl, Nat.reduceDiv]
          first | refine call_k (s_ref44_Common a b ha hb) ?_ | refine call_d (s_ref44_Common a b ha hb) ?_
          simp -implicitDefEqProofs only [go_sem, reduceIte, Nat.reduceAdd, Nat.reduceSub, Nat.reduceMul, Nat.reduceLT, Nat.reduceLeDiff, Nat.reduceEqDiff, Nat.reduceBEq, Int.reduceLE, Int.reduceLT, Int.reduceToNat, Int.reduceMul, Int.reduceAdd, Int.reduceSub, Int.reduceNeg, Int.reduceEq, reduceCtorEq, Nat.reduceMod, Int.reduceBNe, Int.reduceBEq, Int.reduceGT, Int.reduceGE, Int.reduceNe, Int.cast_ofNat_Int, Int.natCast_zero, Int.natCast_one, bne_self_eq_false, gt_iff_lt, ge_iff_le, Int.lt_irrefl, Int.le_refl, Nat.reduceDiv, List.length_append, hXl, x2]
          have SW := s_ref44_SameWitness X X hX hX
          rw [show (X == X) = true by simp] at SW
          first | refine call_k SW ?_ (by simp -implicitDefEqProofs only [go_sem, reduceIte, Nat.reduceAdd, Nat.reduceSub, Nat.reduceMul, Nat.reduceLT, Nat.reduceLeDiff, Nat.reduceEqDiff, Nat.reduceBEq, Int.reduceLE, Int.reduceLT, Int.reduceToNat, Int.reduceMul, Int.reduceAdd, Int.reduceSub, Int.reduceNeg, Int.reduceEq, reduceCtorEq, Nat.reduceMod, Int.reduceBNe, Int.reduceBEq, Int.reduceGT, Int.reduceGE, Int.reduceNe, Int.cast_ofNat_Int, Int.natCast_zero, Int.natCast_one, bne_self_eq_false, gt_iff_lt, ge_iff_le, Int.lt_irrefl, Int.le_refl, Nat.reduceDiv, hapX]) | refine call_d SW ?_ (by simp -implicitDefEqProofs only [go_sem, reduceIte, Nat.reduceAdd, Nat.reduceSub, Nat.reduceMul, Nat.reduceLT, Nat.reduceLeDiff, Nat.reduceEqDiff, Nat.reduceBEq, Int.reduceLE, Int.reduceLT, Int.reduceToNat, Int.reduceMul, Int.reduceAdd, Int.reduceSub, Int.reduceNeg, Int.reduceEq, reduceCtorEq, Nat.reduceMod, Int.reduceBNe, Int.reduceBEq, Int.reduceGT, Int.reduceGE, Int.reduceNe, Int.cast_ofNat_Int, Int.natCast_zero, Int.natCast_one, bne_self_eq_false, gt_iff_lt, ge_iff_le, Int.lt_irrefl, Int.le_refl, Nat.reduceDiv, hapX])
          simp -implicitDefEqProofs only [go_sem, reduceIte, Nat.reduceAdd, Nat.reduceSub, Nat.reduceMul, Nat.reduceLT, Nat.reduceLeDiff, Nat.reduceEqDiff, Nat.reduceBEq, Int.reduceLE, Int.reduceLT, Int.reduceToNat, Int.reduceMul, Int.reduceAdd, Int.reduceSub, Int.reduceNeg, Int.reduceEq, reduceCtorEq, Nat.reduceMod, Int.reduceBNe, Int.reduceBEq, Int.reduceGT, Int.reduceGE, Int.reduceNe, Int.cast_ofNat_Int, Int.natCast_zero, Int.natCast_one, bne_self_eq_false, gt_iff_lt, ge_iff_le, Int.lt_irrefl, Int.le_refl, Nat.reduceDiv]
        · have c2' : ((50 : Int) < (w.later.length : Int)) = True := eq_true (by omega)
          simp -implicitDefEqProofs only [go_sem, reduceIte, Nat.reduceAdd, Nat.reduceSub, Nat.reduceMul, Nat.reduceLT, Nat.reduceLeDiff, Nat.reduceEqDiff, Nat.reduceBEq, Int.reduceLE, Int.reduceLT, Int.reduceToNat, Int.reduceMul, Int.reduceAdd, Int.reduceSub, Int.reduceNeg, Int.reduceEq, reduceCtorEq, Nat.reduceMod, Int.reduceBNe, Int.reduceBEq, Int.reduceGT, Int.reduceGE, Int.reduceNe, Int.cast_ofNat_Int, Int.natCast_zero, Int.natCast_one, bne_self_eq_false, gt_iff_lt, ge_iff_le, Int.lt_irrefl, Int.le_refl, Nat.reduceDiv, a0, a1, c1', c2']
      · have c1' : ((300 : Int) < (w.data.length : Int)) = True := eq_true (by omega)
        simp -implicitDefEqProofs only [go_sem, reduceIte, Nat.reduceAdd, Nat.reduceSub, Nat.reduceMul, Nat.reduceLT, Nat.reduceLeDiff, Nat.reduceEqDiff, Nat.reduceBEq, Int.reduceLE, Int.reduceLT, Int.reduceToNat, Int.reduceMul, Int.reduceAdd, Int.reduceSub, Int.reduceNeg, Int.reduceEq, reduceCtorEq, Nat.reduceMod, Int.reduceBNe, Int.reduceBEq, Int.reduceGT, Int.reduceGE, Int.reduceNe, Int.cast_ofNat_Int, Int.natCast_zero, Int.natCast_one, bne_self_eq_false, gt_iff_lt, ge_iff_le, Int.lt_irrefl, Int.le_refl, Nat.reduceDiv, a0, a1, c1']
end Go.Proofs.YtgkmhmhbepfiaaaDoor.Pm
