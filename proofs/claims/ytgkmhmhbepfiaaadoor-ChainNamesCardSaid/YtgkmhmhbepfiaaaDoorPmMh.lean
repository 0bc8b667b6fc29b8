/- Texts of this proof in one file: PmJi, PmJj, PmJl. No law of Go's is stated here. -/
import Derived.Test.YtgkmhmhbepfiaaaDoorPmMg
/-! PmJi -/
set_option linter.all false
set_option maxRecDepth 100000
set_option maxHeartbeats 2000000
namespace Go.Proofs.YtgkmhmhbepfiaaaDoor.Pm
open Go Go.RowKit

theorem s_chain_ProveN (l : List Lnk) (hl : lnOK l) (hll : l.length ≤ 1000000) (n : Int) (he : proveE l n ≠ 0) : Spec Tryd.prog 44 [.sl (lnT l), .i .i64 n] [] (.tup [.t (.agg Wit.zero.cells) true, .t (.i .i64 (proveE l n)) true]) := by
  refine spec_k (hold mixed) b_chain_Prove [(.agg Wit.zero.cells, true), (.i .i64 (proveE l n), true)] ?_
  have hH := s_chain_Head l hl
  have hh := headV_len hl
  unfold proveE at he ⊢
  simp -implicitDefEqProofs only [go_sem, reduceIte, Nat.reduceAdd, Nat.reduceSub, Nat.reduceMul, Nat.reduceLT, Nat.reduceLeDiff, Nat.reduceEqDiff, Nat.reduceBEq, Int.reduceLE, Int.reduceLT, Int.reduceToNat, Int.reduceMul, Int.reduceAdd, Int.reduceSub, Int.reduceNeg, Int.reduceEq, reduceCtorEq, Nat.reduceMod, Int.reduceBNe, Int.reduceBEq, Int.reduceGT, Int.reduceGE, Int.reduceNe, Int.cast_ofNat_Int, Int.natCast_zero, Int.natCast_one, bne_self_eq_false, gt_iff_lt, ge_iff_le, Int.lt_irrefl, Int.le_refl, Nat.reduceDiv]
  first | refine call_k hH ?_ | refine call_d hH ?_
  by_cases h0 : headE l = 0
  · rw [if_pos h0] at he ⊢
    have e0 : (headE l != 0) = false := by rw [h0]; rfl
    by_cases h1 : 0 ≤ n
    · have e1 : (n < 0) = False := eq_false (by omega)
      have h2 : ¬ n < l.length := fun h => by rw [if_pos ⟨h1, h⟩] at he; exact he rfl
      have e2 : ((l.length : Int) ≤ n) = True := eq_true (by omega)
      rw [if_neg (fun h => h2 h.2)]
      simp -implicitDefEqProofs only [go_sem, reduceIte, Nat.reduceAdd, Nat.reduceSub, Nat.reduceMul, Nat.reduceLT, Nat.reduceLeDiff, Nat.reduceEqDiff, Nat.reduceBEq, Int.reduceLE, Int.reduceLT, Int.reduceToNat, Int.reduceMul, Int.reduceAdd, Int.reduceSub, Int.reduceNeg, Int.reduceEq, reduceCtorEq, Nat.reduceMod, Int.reduceBNe, Int.reduceBEq, Int.reduceGT, Int.reduceGE, Int.reduceNe, Int.cast_ofNat_Int, Int.natCast_zero, Int.natCast_one, bne_self_eq_false, gt_iff_lt, ge_iff_le, Int.lt_irrefl, Int.le_refl, Nat.reduceDiv, bN_map, hh, bC_take hh, e0, e1, e2]
      exact ⟨bC_one _, rfl⟩
    · have e1 : (n < 0) = True := eq_true (by omega)
      rw [if_neg (fun h => h1 h.1)]
      simp -implicitDefEqProofs only [go_sem, reduceIte, Nat.reduceAdd, Nat.reduceSub, Nat.reduceMul, Nat.reduceLT, Nat.reduceLeDiff, Nat.reduceEqDiff, Nat.reduceBEq, Int.reduceLE, Int.reduceLT, Int.reduceToNat, Int.reduceMul, Int.reduceAdd, Int.reduceSub, Int.reduceNeg, Int.reduceEq, reduceCtorEq, Nat.reduceMod, Int.reduceBNe, Int.reduceBEq, Int.reduceGT, Int.reduceGE, Int.reduceNe, Int.cast_ofNat_Int, Int.natCast_zero, Int.natCast_one, bne_self_eq_false, gt_iff_lt, ge_iff_le, Int.lt_irrefl, Int.le_refl, Nat.reduceDiv, bN_map, hh, bC_take hh, e0, e1]
      exact ⟨bC_one _, rfl⟩
  · rw [if_neg h0] at he ⊢
    have e0 : (headE l != 0) = true := by rw [bne_iff_ne]; exact h0
    simp -implicitDefEqProofs only [go_sem, reduceIte, Nat.reduceAdd, Nat.reduceSub, Nat.reduceMul, Nat.reduceLT, Nat.reduceLeDiff, Nat.reduceEqDiff, Nat.reduceBEq, Int.reduceLE, Int.reduceLT, Int.reduceToNat, Int.reduceMul, Int.reduceAdd, Int.reduceSub, Int.reduceNeg, Int.reduceEq, reduceCtorEq, Nat.reduceMod, Int.reduceBNe, Int.reduceBEq, Int.reduceGT, Int.reduceGE, Int.reduceNe, Int.cast_ofNat_Int, Int.natCast_zero, Int.natCast_one, bne_self_eq_false, gt_iff_lt, ge_iff_le, Int.lt_irrefl, Int.le_refl, Nat.reduceDiv, bN_map, hh, bC_take hh, e0]
    exact ⟨bC_one _, rfl⟩
end Go.Proofs.YtgkmhmhbepfiaaaDoor.Pm

/-! PmJj -/
set_option linter.all false
set_option maxRecDepth 100000
set_option maxHeartbeats 2000000
namespace Go.Proofs.YtgkmhmhbepfiaaaDoor.Pm
open Go Go.RowKit

attribute [go_sem] Wit.cells
structure Wit.fine (w : Wit) : Prop where
  p : w.prev.length = 32
  l : ∀ d ∈ w.later, d.length = 32
  lo : -9223372036854775808 ≤ w.pos
  hi : w.pos ≤ 9223372036854775807
  dl : w.data.length ≤ 1000000
  ll : w.later.length ≤ 1000000
def Wit.valid (w : Wit) : Bool := decide (0 ≤ w.pos) && (decide (w.pos < 40) && (decide (w.data.length ≤ 200) && decide ((w.later.length : Int) ≤ 39 - w.pos)))
def leadK (w : Wit) : Nat → List (BitVec 8)
  | 0 => stepV w.prev w.pos.toNat (ofV w.data)
  | j + 1 => stepV (leadK w j) (w.pos.toNat + 1 + j) ((w.later[j]?).getD [])
def leadV (w : Wit) : List (BitVec 8) := leadK w w.later.length
theorem leadK_len (w : Wit) : ∀ j, (leadK w j).length = 32
  | 0 => stepV_len _ _ _
  | j + 1 => stepV_len _ _ _
theorem Wit.valid_iff (w : Wit) : w.valid = true ↔ 0 ≤ w.pos ∧ w.pos < 40 ∧ w.data.length ≤ 200 ∧ (w.later.length : Int) ≤ 39 - w.pos := by
  simp [Wit.valid]
def wbF (w : Wit) : Blk := .var (.t (.i .i64 w.pos) false :: (bF w.prev ++ [.t (.sl (bT w.data)) false, .t (.sl (idT w.later)) false]))
theorem leadK_step {w : Wit} {j : Nat} (h : j < w.later.length) : leadK w (j + 1) = stepV (leadK w j) (w.pos.toNat + 1 + j) w.later[j] := by
  simp only [leadK, List.getElem?_eq_getElem h, Option.getD_some]
def acF (w : Wit) (hd : List (BitVec 8)) (j : Nat) : S := ⟨tmL [(2, .ptr 0 0), (3, .ptr 1 0), (6, .ptr 2 0), (7, .t (.i .i64 0) true), (44, .t (.sl (idT w.later)) false), (45, .t (.i .i64 w.later.length) true), (46, .t (.i .i64 j) true)], [.var (bF hd), wbF w, .var (bC (leadK w j))]⟩
theorem s_chain_Accept (hd : List (BitVec 8)) (hh : hd.length = 32) (w : Wit) (hw : w.fine) (hv : w.valid = true) : Spec Tryd.prog 46 [.agg (bN hd), .agg w.cells] [] (.tup [.t (.b (leadV w == hd)) true, .t (.i .i64 0) true]) := by
  refine spec_k (hold mixed) b_chain_Accept [(.b (leadV w == hd), true), (.i .i64 0, true)] ?_
  obtain ⟨v0, v1, v2, v3⟩ := w.valid_iff.1 hv
  obtain ⟨p, hp⟩ : ∃ p : Nat, w.pos = p := ⟨w.pos.toNat, by omega⟩
  have hpn : w.pos.toNat = p := by omega
  have hPC := idC_F hw.p
  have hPl := hPC.len
  have hPt := hPC.to
  have hPa := hPC.all
  have t0 := fun X => hPC.tk X 0
  have a0 := fun X => hPC.at X 0
  have a1 := fun X => hPC.at X 1
  simp only [Nat.reduceAdd, List.take_zero, List.append_nil] at a0 a1 t0
  have hk0 := leadK_len w 0
  have hk0e : leadK w 0 = stepV w.prev p (ofV w.data) := by simp only [leadK, hpn]
  have c0 : ((p : Int) < 0) = False := eq_false (by omega)
  have c1 : ((40 : Int) ≤ (p : Int)) = False := eq_false (by omega)
  have c2 : ((200 : Int) < (w.data.length : Int)) = False := eq_false (by omega)
  have c3 : IntKind.i64.wrap (39 - (p : Int)) = 39 - (p : Int) := wrap_i64_id (by omega) (by omega)
  have c4 : (39 - (p : Int) < (w.later.length : Int)) = False := eq_false (by omega)
  simp -implicitDefEqProofs only [go_sem, reduceIte, Nat.reduceAdd, Nat.reduceSub, Nat.reduceMul, Nat.reduceLT, Nat.reduceLeDiff, Nat.reduceEqDiff, Nat.reduceBEq, Int.reduceLE, Int.reduceLT, Int.reduceToNat, Int.reduceMul, Int.reduceAdd, Int.reduceSub, Int.reduceNeg, Int.reduceEq, reduceCtorEq, Nat.reduceMod, Int.reduceBNe, Int.reduceBEq, Int.reduceGT, Int.reduceGE, Int.reduceNe, Int.cast_ofNat_Int, Int.natCast_zero, Int.natCast_one, bne_self_eq_false, gt_iff_lt, ge_iff_le, Int.lt_irrefl, Int.le_refl, Nat.reduceDiv, List.map_append, bN_mapF, a0, a1, t0, hPl, List.length_append, hp, c0, c1, c2, c3, c4]
  first | refine call_k (s_chain_next w.prev p w.data hw.p (by omega) (by omega)) ?_ | refine call_d (s_chain_next w.prev p w.data hw.p (by omega) (by omega)) ?_
  rw [← hk0e]
  simp -implicitDefEqProofs only [go_sem, reduceIte, Nat.reduceAdd, Nat.reduceSub, Nat.reduceMul, Nat.reduceLT, Nat.reduceLeDiff, Nat.reduceEqDiff, Nat.reduceBEq, Int.reduceLE, Int.reduceLT, Int.reduceToNat, Int.reduceMul, Int.reduceAdd, Int.reduceSub, Int.reduceNeg, Int.reduceEq, reduceCtorEq, Nat.reduceMod, Int.reduceBNe, Int.reduceBEq, Int.reduceGT, Int.reduceGE, Int.reduceNe, Int.cast_ofNat_Int, Int.natCast_zero, Int.natCast_one, bne_self_eq_false, gt_iff_lt, ge_iff_le, Int.lt_irrefl, Int.le_refl, Nat.reduceDiv, bN_map, hk0, bC_take hk0, a1]
  refine ⟨bC_one _, ?_⟩
  refine loop_l (α := Nat) (acF w hd) (fun j => w.later.length - j) (fun j => j ≤ w.later.length) 0 (by simp -implicitDefEqProofs only [go_sem, reduceIte, Nat.reduceAdd, Nat.reduceSub, Nat.reduceMul, Nat.reduceLT, Nat.reduceLeDiff, Nat.reduceEqDiff, Nat.reduceBEq, Int.reduceLE, Int.reduceLT, Int.reduceToNat, Int.reduceMul, Int.reduceAdd, Int.reduceSub, Int.reduceNeg, Int.reduceEq, reduceCtorEq, Nat.reduceMod, acF, wbF, hp, hPt, hPa, List.map_append, List.all_append]; rfl) (Nat.zero_le _) ?_
  intro j hj R hR
  have hk := leadK_len w j
  simp -implicitDefEqProofs only [go_sem, reduceIte, Nat.reduceAdd, Nat.reduceSub, Nat.reduceMul, Nat.reduceLT, Nat.reduceLeDiff, Nat.reduceEqDiff, Nat.reduceBEq, Int.reduceLE, Int.reduceLT, Int.reduceToNat, Int.reduceMul, Int.reduceAdd, Int.reduceSub, Int.reduceNeg, Int.reduceEq, reduceCtorEq, Nat.reduceMod, Int.reduceBNe, Int.reduceBEq, Int.reduceGT, Int.reduceGE, Int.reduceNe, Int.cast_ofNat_Int, Int.natCast_zero, Int.natCast_one, bne_self_eq_false, gt_iff_lt, ge_iff_le, Int.lt_irrefl, Int.le_refl, Nat.reduceDiv, acF, wbF, a0, a1, hp]
  refine wcond_mk (fun hh2 => ?_) (fun hh2 => ?_)
  · have hj' : j < w.later.length := by have := of_decide_eq_true hh2; omega
    have hj2 : ((j : Int) < (w.later.length : Int)) = True := eq_true (by omega)
    have hdj := hw.l _ (List.getElem_mem hj')
    have e1 : IntKind.i64.wrap ((p : Int) + 1) = ((p + 1 : Nat) : Int) := by rw [wrap_i64_id (by omega) (by omega)]; omega
    have e2 : IntKind.i64.wrap (((p + 1 : Nat) : Int) + (j : Int)) = ((p + 1 + j : Nat) : Int) := by rw [wrap_i64_id (by omega) (by omega)]; omega
    have hst := leadK_step hj'
    rw [hpn] at hst
    have hk2 := leadK_len w (j + 1)
    simp -implicitDefEqProofs only [go_sem, reduceIte, Nat.reduceAdd, Nat.reduceSub, Nat.reduceMul, Nat.reduceLT, Nat.reduceLeDiff, Nat.reduceEqDiff, Nat.reduceBEq, Int.reduceLE, Int.reduceLT, Int.reduceToNat, Int.reduceMul, Int.reduceAdd, Int.reduceSub, Int.reduceNeg, Int.reduceEq, reduceCtorEq, Nat.reduceMod, Int.reduceBNe, Int.reduceBEq, Int.reduceGT, Int.reduceGE, Int.reduceNe, Int.cast_ofNat_Int, Int.natCast_zero, Int.natCast_one, bne_self_eq_false, gt_iff_lt, ge_iff_le, Int.lt_irrefl, Int.le_refl, Nat.reduceDiv, a0, a1, hp, hk, bC_take hk, e1, e2, hj2, idT_get hj', hdj, bN_take hdj, bN_mapF, bF_take hdj]
    refine ⟨bF_one _, ?_⟩
    first | refine call_k (s_chain_step (leadK w j) (p + 1 + j) w.later[j] hk (by omega) hdj) ?_ | refine call_d (s_chain_step (leadK w j) (p + 1 + j) w.later[j] hk (by omega) hdj) ?_
    rw [← hst]
    simp -implicitDefEqProofs only [go_sem, reduceIte, Nat.reduceAdd, Nat.reduceSub, Nat.reduceMul, Nat.reduceLT, Nat.reduceLeDiff, Nat.reduceEqDiff, Nat.reduceBEq, Int.reduceLE, Int.reduceLT, Int.reduceToNat, Int.reduceMul, Int.reduceAdd, Int.reduceSub, Int.reduceNeg, Int.reduceEq, reduceCtorEq, Nat.reduceMod, Int.reduceBNe, Int.reduceBEq, Int.reduceGT, Int.reduceGE, Int.reduceNe, Int.cast_ofNat_Int, Int.natCast_zero, Int.natCast_one, bne_self_eq_false, gt_iff_lt, ge_iff_le, Int.lt_irrefl, Int.le_refl, Nat.reduceDiv, bN_map, hk2, bC_take hk2, hk, bC_drop hk]
    refine ⟨bC_one _, hR (j + 1) _ ?_ (by omega) (by omega)⟩
    simp -implicitDefEqProofs only [go_sem, reduceIte, Nat.reduceAdd, Nat.reduceSub, Nat.reduceMul, Nat.reduceLT, Nat.reduceLeDiff, Nat.reduceEqDiff, Nat.reduceBEq, Int.reduceLE, Int.reduceLT, Int.reduceToNat, Int.reduceMul, Int.reduceAdd, Int.reduceSub, Int.reduceNeg, Int.reduceEq, reduceCtorEq, Nat.reduceMod, wrap_i64_id (show -9223372036854775808 ≤ (j : Int) + 1 by omega) (by omega), Int.natCast_add, acF, wbF, hp, hPt, hPa, List.map_append, List.all_append]
    rfl
  · have hj' : j = w.later.length := by have := of_decide_eq_false hh2; omega
    subst hj'
    clear hR
    have hkv : leadK w w.later.length = leadV w := rfl
    rw [hkv] at hk ⊢
    simp -implicitDefEqProofs only [go_sem, reduceIte, Nat.reduceAdd, Nat.reduceSub, Nat.reduceMul, Nat.reduceLT, Nat.reduceLeDiff, Nat.reduceEqDiff, Nat.reduceBEq, Int.reduceLE, Int.reduceLT, Int.reduceToNat, Int.reduceMul, Int.reduceAdd, Int.reduceSub, Int.reduceNeg, Int.reduceEq, reduceCtorEq, Nat.reduceMod, Int.reduceBNe, Int.reduceBEq, Int.reduceGT, Int.reduceGE, Int.reduceNe, Int.cast_ofNat_Int, Int.natCast_zero, Int.natCast_one, bne_self_eq_false, gt_iff_lt, ge_iff_le, Int.lt_irrefl, Int.le_refl, Nat.reduceDiv, hk, bC_take hk, hh, bF_take hh, plains_bC, plains_bF32 hh, eqCells_bN (leadV w) hd (by rw [hk, hh])]
    exact bN_isI _
def accB (w : Wit) (hd : List (BitVec 8)) : Bool := if w.valid = true then leadV w == hd else false
def accE (w : Wit) : Int := if w.valid = true then 0 else 8
theorem s_chain_AcceptN (hd : List (BitVec 8)) (hh : hd.length = 32) (w : Wit) (hw : w.fine) (hv : ¬ w.valid = true) : Spec Tryd.prog 46 [.agg (bN hd), .agg w.cells] [] (.tup [.t (.b false) true, .t (.i .i64 8) true]) := by
  refine spec_k (hold mixed) b_chain_Accept [(.b false, true), (.i .i64 8, true)] ?_
  rw [w.valid_iff] at hv
  have hPC := idC_F hw.p
  have a0 := fun X => hPC.at X 0
  have a1 := fun X => hPC.at X 1
  simp only [Nat.reduceAdd] at a0 a1
  by_cases q0 : 0 ≤ w.pos
  · have c0 : (w.pos < 0) = False := eq_false (by omega)
    by_cases q1 : w.pos < 40
    · have c1 : ((40 : Int) ≤ w.pos) = False := eq_false (by omega)
      by_cases q2 : w.data.length ≤ 200
      · have c2 : ((200 : Int) < (w.data.length : Int)) = False := eq_false (by omega)
        have c3 : IntKind.i64.wrap (39 - w.pos) = 39 - w.pos := wrap_i64_id (by omega) (by omega)
        have c4 : (39 - w.pos < (w.later.length : Int)) = True := eq_true (by
          have : ¬ (w.later.length : Int) ≤ 39 - w.pos := fun h => hv ⟨q0, q1, q2, h⟩
          omega)
        simp -implicitDefEqProofs only [go_sem, reduceIte, Nat.reduceAdd, Nat.reduceSub, Nat.reduceMul, Nat.reduceLT, Nat.reduceLeDiff, Nat.reduceEqDiff, Nat.reduceBEq, Int.reduceLE, Int.reduceLT, Int.reduceToNat, Int.reduceMul, Int.reduceAdd, Int.reduceSub, Int.reduceNeg, Int.reduceEq, reduceCtorEq, Nat.reduceMod, Int.reduceBNe, Int.reduceBEq, Int.reduceGT, Int.reduceGE, Int.reduceNe, Int.cast_ofNat_Int, Int.natCast_zero, Int.natCast_one, bne_self_eq_false, gt_iff_lt, ge_iff_le, Int.lt_irrefl, Int.le_refl, Nat.reduceDiv, List.map_append, bN_mapF, a0, a1, c0, c1, c2, c3, c4]
      · have c2 : ((200 : Int) < (w.data.length : Int)) = True := eq_true (by omega)
        simp -implicitDefEqProofs only [go_sem, reduceIte, Nat.reduceAdd, Nat.reduceSub, Nat.reduceMul, Nat.reduceLT, Nat.reduceLeDiff, Nat.reduceEqDiff, Nat.reduceBEq, Int.reduceLE, Int.reduceLT, Int.reduceToNat, Int.reduceMul, Int.reduceAdd, Int.reduceSub, Int.reduceNeg, Int.reduceEq, reduceCtorEq, Nat.reduceMod, Int.reduceBNe, Int.reduceBEq, Int.reduceGT, Int.reduceGE, Int.reduceNe, Int.cast_ofNat_Int, Int.natCast_zero, Int.natCast_one, bne_self_eq_false, gt_iff_lt, ge_iff_le, Int.lt_irrefl, Int.le_refl, Nat.reduceDiv, List.map_append, bN_mapF, a0, a1, c0, c1, c2]
    · have c1 : ((40 : Int) ≤ w.pos) = True := eq_true (by omega)
      simp -implicitDefEqProofs only [go_sem, reduceIte, Nat.reduceAdd, Nat.reduceSub, Nat.reduceMul, Nat.reduceLT, Nat.reduceLeDiff, Nat.reduceEqDiff, Nat.reduceBEq, Int.reduceLE, Int.reduceLT, Int.reduceToNat, Int.reduceMul, Int.reduceAdd, Int.reduceSub, Int.reduceNeg, Int.reduceEq, reduceCtorEq, Nat.reduceMod, Int.reduceBNe, Int.reduceBEq, Int.reduceGT, Int.reduceGE, Int.reduceNe, Int.cast_ofNat_Int, Int.natCast_zero, Int.natCast_one, bne_self_eq_false, gt_iff_lt, ge_iff_le, Int.lt_irrefl, Int.le_refl, Nat.reduceDiv, List.map_append, bN_mapF, a0, a1, c0, c1]
  · have c0 : (w.pos < 0) = True := eq_true (by omega)
    simp -implicitDefEqProofs only [go_sem, reduceIte, Nat.reduceAdd, Nat.reduceSub, Nat.reduceMul, Nat.reduceLT, Nat.reduceLeDiff, Nat.reduceEqDiff, Nat.reduceBEq, Int.reduceLE, Int.reduceLT, Int.reduceToNat, Int.reduceMul, Int.reduceAdd, Int.reduceSub, Int.reduceNeg, Int.reduceEq, reduceCtorEq, Nat.reduceMod, Int.reduceBNe, Int.reduceBEq, Int.reduceGT, Int.reduceGE, Int.reduceNe, Int.cast_ofNat_Int, Int.natCast_zero, Int.natCast_one, bne_self_eq_false, gt_iff_lt, ge_iff_le, Int.lt_irrefl, Int.le_refl, Nat.reduceDiv, List.map_append, bN_mapF, a0, a1, c0]
theorem s_AcceptT (hd : List (BitVec 8)) (hh : hd.length = 32) (w : Wit) (hw : w.fine) : Spec Tryd.prog 46 [.agg (bN hd), .agg w.cells] [] (.tup [.t (.b (accB w hd)) true, .t (.i .i64 (accE w)) true]) := by
  by_cases hv : w.valid = true
  · rw [show accB w hd = (leadV w == hd) from if_pos hv, show accE w = 0 from if_pos hv]
    exact s_chain_Accept hd hh w hw hv
  · rw [show accB w hd = false from if_neg hv, show accE w = 8 from if_neg hv]
    exact s_chain_AcceptN hd hh w hw hv
theorem id1s_bF : ∀ (ws : List (BitVec 8)) (X : List AV), id1s (bF ws ++ X) = id1s X
  | [], X => rfl
  | b :: ws, X => by
    show id1s (.t (.i .u8 b.toNat) false :: (bF ws ++ X)) = _
    simp only [id1s, AV.id1, List.nil_append, id1s_bF ws X]
attribute [go_sem] id1s_bF
end Go.Proofs.YtgkmhmhbepfiaaaDoor.Pm

/-! PmJl -/
set_option linter.all false
set_option maxRecDepth 100000
set_option maxHeartbeats 2000000
namespace Go.Proofs.YtgkmhmhbepfiaaaDoor.Pm
open Go Go.RowKit

def comN : List Lnk → List Lnk → Nat
  | x :: xs, y :: ys => if x.sum = y.sum then comN xs ys + 1 else 0
  | _, _ => 0
theorem comN_step {a b : List Lnk} {k : Nat} (ha : k < a.length) (hb : k < b.length) (he : a[k].sum = b[k].sum) : comN (a.drop k) (b.drop k) = comN (a.drop (k + 1)) (b.drop (k + 1)) + 1 := by
  rw [List.drop_eq_getElem_cons ha, List.drop_eq_getElem_cons hb, comN, if_pos he]
theorem comN_ne {a b : List Lnk} {k : Nat} (ha : k < a.length) (hb : k < b.length) (he : ¬ a[k].sum = b[k].sum) : comN (a.drop k) (b.drop k) = 0 := by
  rw [List.drop_eq_getElem_cons ha, List.drop_eq_getElem_cons hb, comN, if_neg he]
theorem comN_end {a b : List Lnk} {k : Nat} (h : ¬ (k < a.length ∧ k < b.length)) : comN (a.drop k) (b.drop k) = 0 := by
  by_cases ha : k < a.length
  · have hb : ¬ k < b.length := fun hb => h ⟨ha, hb⟩
    rw [List.drop_of_length_le (show b.length ≤ k by omega)]
    cases a.drop k <;> rfl
  · rw [List.drop_of_length_le (show a.length ≤ k by omega)]
    rfl
def comE (a b : List Lnk) : Int := if headE a = 0 then headE b else headE a
def comV (a b : List Lnk) : Int := if comE a b = 0 then (comN a b : Int) else 0
theorem s_chain_Common (a b : List Lnk) (ha : lnOK a) (hb : lnOK b) : Spec Tryd.prog 48 [.sl (lnT a), .sl (lnT b)] [] (.tup [.t (.i .i64 (comV a b)) true, .t (.i .i64 (comE a b)) true]) := by
  refine spec_k (hold mixed) b_chain_Common [(.i .i64 (comV a b), true), (.i .i64 (comE a b), true)] ?_
  have h1 := headV_len ha
  have h2 := headV_len hb
  simp -implicitDefEqProofs only [go_sem, reduceIte, Nat.reduceAdd, Nat.reduceSub, Nat.reduceMul, Nat.reduceLT, Nat.reduceLeDiff, Nat.reduceEqDiff, Nat.reduceBEq, Int.reduceLE, Int.reduceLT, Int.reduceToNat, Int.reduceMul, Int.reduceAdd, Int.reduceSub, Int.reduceNeg, Int.reduceEq, reduceCtorEq, Nat.reduceMod, Int.reduceBNe, Int.reduceBEq, Int.reduceGT, Int.reduceGE, Int.reduceNe, Int.cast_ofNat_Int, Int.natCast_zero, Int.natCast_one, bne_self_eq_false, gt_iff_lt, ge_iff_le, Int.lt_irrefl, Int.le_refl, Nat.reduceDiv]
  refine loop_u 3 (ln_step (by simp -implicitDefEqProofs only [go_sem, reduceIte, Nat.reduceAdd, Nat.reduceSub, Nat.reduceMul, Nat.reduceLT, Nat.reduceLeDiff, Nat.reduceEqDiff, Nat.reduceBEq, Int.reduceLE, Int.reduceLT, Int.reduceToNat, Int.reduceMul, Int.reduceAdd, Int.reduceSub, Int.reduceNeg, Int.reduceEq, reduceCtorEq, Nat.reduceMod]; rfl) fun R0 hR0 => ?_)
  simp -implicitDefEqProofs only [go_sem, reduceIte, Nat.reduceAdd, Nat.reduceSub, Nat.reduceMul, Nat.reduceLT, Nat.reduceLeDiff, Nat.reduceEqDiff, Nat.reduceBEq, Int.reduceLE, Int.reduceLT, Int.reduceToNat, Int.reduceMul, Int.reduceAdd, Int.reduceSub, Int.reduceNeg, Int.reduceEq, reduceCtorEq, Nat.reduceMod, Int.reduceBNe, Int.reduceBEq, Int.reduceGT, Int.reduceGE, Int.reduceNe, Int.cast_ofNat_Int, Int.natCast_zero, Int.natCast_one, bne_self_eq_false, gt_iff_lt, ge_iff_le, Int.lt_irrefl, Int.le_refl, Nat.reduceDiv]
  first | refine call_k (s_chain_Head a ha) ?_ | refine call_d (s_chain_Head a ha) ?_
  by_cases c1 : headE a = 0
  · have c1' : (headE a != 0) = false := by rw [c1]; rfl
    have hE : comE a b = headE b := if_pos c1
    simp -implicitDefEqProofs only [go_sem, reduceIte, Nat.reduceAdd, Nat.reduceSub, Nat.reduceMul, Nat.reduceLT, Nat.reduceLeDiff, Nat.reduceEqDiff, Nat.reduceBEq, Int.reduceLE, Int.reduceLT, Int.reduceToNat, Int.reduceMul, Int.reduceAdd, Int.reduceSub, Int.reduceNeg, Int.reduceEq, reduceCtorEq, Nat.reduceMod, Int.reduceBNe, Int.reduceBEq, Int.reduceGT, Int.reduceGE, Int.reduceNe, Int.cast_ofNat_Int, Int.natCast_zero, Int.natCast_one, bne_self_eq_false, gt_iff_lt, ge_iff_le, Int.lt_irrefl, Int.le_refl, Nat.reduceDiv, bN_map, h1, bC_take h1, c1']
    refine ⟨bC_one _, hR0 _ (ln_step (by simp -implicitDefEqProofs only [go_sem, reduceIte, Nat.reduceAdd, Nat.reduceSub, Nat.reduceMul, Nat.reduceLT, Nat.reduceLeDiff, Nat.reduceEqDiff, Nat.reduceBEq, Int.reduceLE, Int.reduceLT, Int.reduceToNat, Int.reduceMul, Int.reduceAdd, Int.reduceSub, Int.reduceNeg, Int.reduceEq, reduceCtorEq, Nat.reduceMod]; rfl) fun R1 hR1 => ?_)⟩
    simp -implicitDefEqProofs only [go_sem, reduceIte, Nat.reduceAdd, Nat.reduceSub, Nat.reduceMul, Nat.reduceLT, Nat.reduceLeDiff, Nat.reduceEqDiff, Nat.reduceBEq, Int.reduceLE, Int.reduceLT, Int.reduceToNat, Int.reduceMul, Int.reduceAdd, Int.reduceSub, Int.reduceNeg, Int.reduceEq, reduceCtorEq, Nat.reduceMod, Int.reduceBNe, Int.reduceBEq, Int.reduceGT, Int.reduceGE, Int.reduceNe, Int.cast_ofNat_Int, Int.natCast_zero, Int.natCast_one, bne_self_eq_false, gt_iff_lt, ge_iff_le, Int.lt_irrefl, Int.le_refl, Nat.reduceDiv]
    first | refine call_k (s_chain_Head b hb) ?_ | refine call_d (s_chain_Head b hb) ?_
    by_cases c2 : headE b = 0
    · have c2' : (headE b != 0) = false := by rw [c2]; rfl
      have hV : comV a b = comN a b := by unfold comV; rw [hE, if_pos c2]
      have l1 := (checkV_inv (headE_0 c1).1).1
      have l2 := (checkV_inv (headE_0 c2).1).1
      rw [hE, hV, c2]
      simp -implicitDefEqProofs only [go_sem, reduceIte, Nat.reduceAdd, Nat.reduceSub, Nat.reduceMul, Nat.reduceLT, Nat.reduceLeDiff, Nat.reduceEqDiff, Nat.reduceBEq, Int.reduceLE, Int.reduceLT, Int.reduceToNat, Int.reduceMul, Int.reduceAdd, Int.reduceSub, Int.reduceNeg, Int.reduceEq, reduceCtorEq, Nat.reduceMod, Int.reduceBNe, Int.reduceBEq, Int.reduceGT, Int.reduceGE, Int.reduceNe, Int.cast_ofNat_Int, Int.natCast_zero, Int.natCast_one, bne_self_eq_false, gt_iff_lt, ge_iff_le, Int.lt_irrefl, Int.le_refl, Nat.reduceDiv, bN_map, h2, bC_take h2, c2']
      refine ⟨bC_one _, hR1 _ (ln_step (by simp -implicitDefEqProofs only [go_sem, reduceIte, Nat.reduceAdd, Nat.reduceSub, Nat.reduceMul, Nat.reduceLT, Nat.reduceLeDiff, Nat.reduceEqDiff, Nat.reduceBEq, Int.reduceLE, Int.reduceLT, Int.reduceToNat, Int.reduceMul, Int.reduceAdd, Int.reduceSub, Int.reduceNeg, Int.reduceEq, reduceCtorEq, Nat.reduceMod]; rfl) fun R2 hR2 => ?_)⟩
      simp -implicitDefEqProofs only [go_sem, reduceIte, Nat.reduceAdd, Nat.reduceSub, Nat.reduceMul, Nat.reduceLT, Nat.reduceLeDiff, Nat.reduceEqDiff, Nat.reduceBEq, Int.reduceLE, Int.reduceLT, Int.reduceToNat, Int.reduceMul, Int.reduceAdd, Int.reduceSub, Int.reduceNeg, Int.reduceEq, reduceCtorEq, Nat.reduceMod, Int.reduceBNe, Int.reduceBEq, Int.reduceGT, Int.reduceGE, Int.reduceNe, Int.cast_ofNat_Int, Int.natCast_zero, Int.natCast_one, bne_self_eq_false, gt_iff_lt, ge_iff_le, Int.lt_irrefl, Int.le_refl, Nat.reduceDiv]
      have hmin : (if (b.length : Int) < (a.length : Int) then (b.length : Int) else (a.length : Int)) = ((min a.length b.length : Nat) : Int) := by
        by_cases h : (b.length : Int) < (a.length : Int)
        · rw [if_pos h]; omega
        · rw [if_neg h]; omega
      refine loop_l (α := Nat) (fun k => ⟨tmL [(0, .t (.sl (lnT a)) false), (1, .t (.sl (lnT b)) false), (10, .t (.i .i64 k) true)], [.row 0 1 [[.sl (lnT a)], [.sl (lnT b)]] false]⟩) (fun k => a.length - k) (fun k => k ≤ a.length ∧ comN a b = comN (a.drop k) (b.drop k) + k) 0 (by simp -implicitDefEqProofs only [go_sem, reduceIte, Nat.reduceAdd, Nat.reduceSub, Nat.reduceMul, Nat.reduceLT, Nat.reduceLeDiff, Nat.reduceEqDiff, Nat.reduceBEq, Int.reduceLE, Int.reduceLT, Int.reduceToNat, Int.reduceMul, Int.reduceAdd, Int.reduceSub, Int.reduceNeg, Int.reduceEq, reduceCtorEq, Nat.reduceMod]; rfl) ⟨Nat.zero_le _, rfl⟩ ?_
      rintro k ⟨hk, he⟩ R hR
      by_cases q0 : k < a.length ∧ k < b.length
      · obtain ⟨q1, q2⟩ := q0
        have q1' : ((k : Int) < (a.length : Int)) = True := eq_true (by omega)
        have q2' : ((k : Int) < (b.length : Int)) = True := eq_true (by omega)
        have q4 : ((k : Int) < ((min a.length b.length : Nat) : Int)) = True := eq_true (by omega)
        have h3a := lnOK_get ha q1
        have h3b := lnOK_get hb q2
        by_cases q3 : a[k].sum = b[k].sum
        · have q3' : (a[k].sum == b[k].sum) = true := by rw [q3]; simp
          simp -implicitDefEqProofs only [go_sem, reduceIte, Nat.reduceAdd, Nat.reduceSub, Nat.reduceMul, Nat.reduceLT, Nat.reduceLeDiff, Nat.reduceEqDiff, Nat.reduceBEq, Int.reduceLE, Int.reduceLT, Int.reduceToNat, Int.reduceMul, Int.reduceAdd, Int.reduceSub, Int.reduceNeg, Int.reduceEq, reduceCtorEq, Nat.reduceMod, Int.reduceBNe, Int.reduceBEq, Int.reduceGT, Int.reduceGE, Int.reduceNe, Int.cast_ofNat_Int, Int.natCast_zero, Int.natCast_one, bne_self_eq_false, gt_iff_lt, ge_iff_le, Int.lt_irrefl, Int.le_refl, Nat.reduceDiv, hmin, q4, q1', q2', lnT_get q1, lnT_get q2, h3a, h3b, bN_take h3a, bN_take h3b, eqCells_bN a[k].sum b[k].sum (by rw [h3a, h3b]), q3']
          refine ⟨bN_isI _, hR (k + 1) _ ?_ ⟨by omega, by rw [he, comN_step q1 q2 q3]; omega⟩ (by omega)⟩
          simp -implicitDefEqProofs only [go_sem, reduceIte, Nat.reduceAdd, Nat.reduceSub, Nat.reduceMul, Nat.reduceLT, Nat.reduceLeDiff, Nat.reduceEqDiff, Nat.reduceBEq, Int.reduceLE, Int.reduceLT, Int.reduceToNat, Int.reduceMul, Int.reduceAdd, Int.reduceSub, Int.reduceNeg, Int.reduceEq, reduceCtorEq, Nat.reduceMod, wrap_i64_id (show -9223372036854775808 ≤ (k : Int) + 1 by omega) (by omega), Int.natCast_add]
          rfl
        · have q3' : (a[k].sum == b[k].sum) = false := by rw [beq_eq_false_iff_ne]; exact q3
          have hz := comN_ne q1 q2 q3
          rw [hz, Nat.zero_add] at he
          simp -implicitDefEqProofs only [go_sem, reduceIte, Nat.reduceAdd, Nat.reduceSub, Nat.reduceMul, Nat.reduceLT, Nat.reduceLeDiff, Nat.reduceEqDiff, Nat.reduceBEq, Int.reduceLE, Int.reduceLT, Int.reduceToNat, Int.reduceMul, Int.reduceAdd, Int.reduceSub, Int.reduceNeg, Int.reduceEq, reduceCtorEq, Nat.reduceMod, Int.reduceBNe, Int.reduceBEq, Int.reduceGT, Int.reduceGE, Int.reduceNe, Int.cast_ofNat_Int, Int.natCast_zero, Int.natCast_one, bne_self_eq_false, gt_iff_lt, ge_iff_le, Int.lt_irrefl, Int.le_refl, Nat.reduceDiv, hmin, q4, q1', q2', lnT_get q1, lnT_get q2, h3a, h3b, bN_take h3a, bN_take h3b, eqCells_bN a[k].sum b[k].sum (by rw [h3a, h3b]), q3', he]
          rw [hV, hE, c2, he]
          exact ⟨bN_isI _, rfl, rfl⟩
      · have q4 : ((k : Int) < ((min a.length b.length : Nat) : Int)) = False := eq_false (by omega)
        have hz := comN_end (a := a) (b := b) (k := k) q0
        rw [hz, Nat.zero_add] at he
        simp -implicitDefEqProofs only [go_sem, reduceIte, Nat.reduceAdd, Nat.reduceSub, Nat.reduceMul, Nat.reduceLT, Nat.reduceLeDiff, Nat.reduceEqDiff, Nat.reduceBEq, Int.reduceLE, Int.reduceLT, Int.reduceToNat, Int.reduceMul, Int.reduceAdd, Int.reduceSub, Int.reduceNeg, Int.reduceEq, reduceCtorEq, Nat.reduceMod, Int.reduceBNe, Int.reduceBEq, Int.reduceGT, Int.reduceGE, Int.reduceNe, Int.cast_ofNat_Int, Int.natCast_zero, Int.natCast_one, bne_self_eq_false, gt_iff_lt, ge_iff_le, Int.lt_irrefl, Int.le_refl, Nat.reduceDiv, hmin, q4, he]
        rw [hV, hE, c2, he]
        exact ⟨rfl, rfl⟩
    · have c2' : (headE b != 0) = true := by rw [bne_iff_ne]; exact c2
      have hV : comV a b = 0 := by unfold comV; rw [hE, if_neg c2]
      rw [hE, hV]
      simp -implicitDefEqProofs only [go_sem, reduceIte, Nat.reduceAdd, Nat.reduceSub, Nat.reduceMul, Nat.reduceLT, Nat.reduceLeDiff, Nat.reduceEqDiff, Nat.reduceBEq, Int.reduceLE, Int.reduceLT, Int.reduceToNat, Int.reduceMul, Int.reduceAdd, Int.reduceSub, Int.reduceNeg, Int.reduceEq, reduceCtorEq, Nat.reduceMod, Int.reduceBNe, Int.reduceBEq, Int.reduceGT, Int.reduceGE, Int.reduceNe, Int.cast_ofNat_Int, Int.natCast_zero, Int.natCast_one, bne_self_eq_false, gt_iff_lt, ge_iff_le, Int.lt_irrefl, Int.le_refl, Nat.reduceDiv, bN_map, h2, bC_take h2, c2']
      exact bC_one _
  · have c1' : (headE a != 0) = true := by rw [bne_iff_ne]; exact c1
    have hE : comE a b = headE a := if_neg c1
    have hV : comV a b = 0 := by unfold comV; rw [hE, if_neg c1]
    rw [hE, hV]
    simp -implicitDefEqProofs only [go_sem, reduceIte, Nat.reduceAdd, Nat.reduceSub, Nat.reduceMul, Nat.reduceLT, Nat.reduceLeDiff, Nat.reduceEqDiff, Nat.reduceBEq, Int.reduceLE, Int.reduceLT, Int.reduceToNat, Int.reduceMul, Int.reduceAdd, Int.reduceSub, Int.reduceNeg, Int.reduceEq, reduceCtorEq, Nat.reduceMod, Int.reduceBNe, Int.reduceBEq, Int.reduceGT, Int.reduceGE, Int.reduceNe, Int.cast_ofNat_Int, Int.natCast_zero, Int.natCast_one, bne_self_eq_false, gt_iff_lt, ge_iff_le, Int.lt_irrefl, Int.le_refl, Nat.reduceDiv, bN_map, h1, bC_take h1, c1']
    exact bC_one _
end Go.Proofs.YtgkmhmhbepfiaaaDoor.Pm
