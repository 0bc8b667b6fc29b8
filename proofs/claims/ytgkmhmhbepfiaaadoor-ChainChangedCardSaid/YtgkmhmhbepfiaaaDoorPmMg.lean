/- Texts of this proof in one file: PmJe, PmJf, PmJg, PmJh, PmHy. No law of Go's is stated here. -/
import Derived.Test.YtgkmhmhbepfiaaaDoorPmMf
import Derived.Test.YtgkmhmhbepfiaaaDoorPmMe
set_option linter.all false
set_option maxRecDepth 100000
set_option maxHeartbeats 2000000
namespace Go.Proofs.YtgkmhmhbepfiaaaDoor.Pm
open Go Go.RowKit
theorem lnT_append (a b : List Lnk) : lnT (a ++ b) = lnT a ++ lnT b := by simp [lnT]
theorem lnOK_take {l : List Lnk} (h : lnOK l) (k : Nat) : lnOK (l.take k) := fun x hx => h x (List.mem_of_mem_take hx)
theorem E_len {x : Lnk} (h : x.sum.length = 32) : x.E.length = 33 := by
  show (bN x.sum).length + 1 = 33
  rw [bN_len', h]
theorem bN_oneT (ws : List (BitVec 8)) : ∀ x ∈ bN ws, x.one := by
  intro v hv
  simp only [bN, List.mem_map] at hv
  obtain ⟨b, _, rfl⟩ := hv
  simp [T.one]
theorem E_one (x : Lnk) : ∀ y ∈ x.E, y.one := by
  intro y hy
  rcases List.mem_cons.1 hy with rfl | hy
  · simp [T.one]
  · exact bN_oneT _ y hy
theorem okEs_lnT {l : List Lnk} (h : lnOK l) : okEs 33 (lnT l) := by
  intro e he
  simp only [lnT, List.mem_map] at he
  obtain ⟨x, hx, rfl⟩ := he
  exact ⟨E_len (h x hx), E_one x⟩
theorem s_ref44_Twin (l : List Lnk) (hl : lnOK l) (h40 : l.length ≤ 50) (hd : ∀ x ∈ l, x.data.length ≤ 300) : Spec Tryd.prog 33 [.sl (lnT l)] [.row 0 33 (lnT l) true] (.row 0 0 0 l.length) := by
  refine spec_ko (hold mixed) b_ref44_Twin [.row 0 33 (lnT l) true] [.row 0 0 0 l.length] ?_
  simp -implicitDefEqProofs only [go_sem, reduceIte, Nat.reduceAdd, Nat.reduceSub, Nat.reduceMul, Nat.reduceLT, Nat.reduceLeDiff, Nat.reduceEqDiff, Nat.reduceBEq, Int.reduceLE, Int.reduceLT, Int.reduceToNat, Int.reduceMul, Int.reduceAdd, Int.reduceSub, Int.reduceNeg, Int.reduceEq, reduceCtorEq, Nat.reduceMod, Int.reduceBNe, Int.reduceBEq, Int.reduceGT, Int.reduceGE, Int.reduceNe, Int.cast_ofNat_Int, Int.natCast_zero, Int.natCast_one, bne_self_eq_false, gt_iff_lt, ge_iff_le, Int.lt_irrefl, Int.le_refl]
  refine loop_l (α := Nat) (fun k => ⟨tmL [(0, .t (.sl (lnT l)) false), (3, .row 0 k 0 k), (4, .t (.i .i64 k) true)], [.row k 33 (lnT (l.take k)) true]⟩) (fun k => l.length - k) (fun k => k ≤ l.length) 0 (by simp -implicitDefEqProofs only [go_sem, reduceIte, Nat.reduceAdd, Nat.reduceSub, Nat.reduceMul, Nat.reduceLT, Nat.reduceLeDiff, Nat.reduceEqDiff, Nat.reduceBEq, Int.reduceLE, Int.reduceLT, Int.reduceToNat, Int.reduceMul, Int.reduceAdd, Int.reduceSub, Int.reduceNeg, Int.reduceEq, reduceCtorEq, Nat.reduceMod]; rfl) (Nat.zero_le _) ?_
  intro k hk R hR
  simp -implicitDefEqProofs only [go_sem, reduceIte, Nat.reduceAdd, Nat.reduceSub, Nat.reduceMul, Nat.reduceLT, Nat.reduceLeDiff, Nat.reduceEqDiff, Nat.reduceBEq, Int.reduceLE, Int.reduceLT, Int.reduceToNat, Int.reduceMul, Int.reduceAdd, Int.reduceSub, Int.reduceNeg, Int.reduceEq, reduceCtorEq, Nat.reduceMod, Int.reduceBNe, Int.reduceBEq, Int.reduceGT, Int.reduceGE, Int.reduceNe, Int.cast_ofNat_Int, Int.natCast_zero, Int.natCast_one, bne_self_eq_false, gt_iff_lt, ge_iff_le, Int.lt_irrefl, Int.le_refl]
  refine wcond_mk (fun hh => ?_) (fun hh => ?_)
  · have hk' : k < l.length := by have := of_decide_eq_true hh; omega
    have h32 := lnOK_get hl hk'
    have hdk := hd _ (List.getElem_mem hk')
    have tdk : List.take l[k].data.length (bT l[k].data) = bT l[k].data := List.take_of_length_le (by rw [bT_length]; exact Nat.le_refl _)
    simp -implicitDefEqProofs only [go_sem, reduceIte, Nat.reduceAdd, Nat.reduceSub, Nat.reduceMul, Nat.reduceLT, Nat.reduceLeDiff, Nat.reduceEqDiff, Nat.reduceBEq, Int.reduceLE, Int.reduceLT, Int.reduceToNat, Int.reduceMul, Int.reduceAdd, Int.reduceSub, Int.reduceNeg, Int.reduceEq, reduceCtorEq, Nat.reduceMod, Int.reduceBNe, Int.reduceBEq, Int.reduceGT, Int.reduceGE, Int.reduceNe, Int.cast_ofNat_Int, Int.natCast_zero, Int.natCast_one, bne_self_eq_false, gt_iff_lt, ge_iff_le, Int.lt_irrefl, Int.le_refl, lnT_get hk', bN_take h32, h32, bN_mapF, embs_bF, tdk]
    refine ⟨⟨okEs_bT _, by unfold room; omega⟩, ⟨okEs_lnT (l := [l[k]]) (fun x hx => by rw [List.mem_singleton.1 hx]; exact h32), by rw [List.length_take]; omega, by unfold room; omega⟩, hR (k + 1) _ ?_ (by omega) (by omega)⟩
    simp -implicitDefEqProofs only [go_sem, reduceIte, Nat.reduceAdd, Nat.reduceSub, Nat.reduceMul, Nat.reduceLT, Nat.reduceLeDiff, Nat.reduceEqDiff, Nat.reduceBEq, Int.reduceLE, Int.reduceLT, Int.reduceToNat, Int.reduceMul, Int.reduceAdd, Int.reduceSub, Int.reduceNeg, Int.reduceEq, reduceCtorEq, Nat.reduceMod, wrap_i64_id (show -9223372036854775808 ≤ (k : Int) + 1 by omega) (by omega), Int.natCast_add]
    rw [List.take_of_length_le (show (lnT (l.take k)).length ≤ k by rw [lnT_length, List.length_take]; omega), take_snoc hk', lnT_append]
    rfl
  · have hk' : k = l.length := by have := of_decide_eq_false hh; omega
    subst hk'
    simp -implicitDefEqProofs only [go_sem, reduceIte, Nat.reduceAdd, Nat.reduceSub, Nat.reduceMul, Nat.reduceLT, Nat.reduceLeDiff, Nat.reduceEqDiff, Nat.reduceBEq, Int.reduceLE, Int.reduceLT, Int.reduceToNat, Int.reduceMul, Int.reduceAdd, Int.reduceSub, Int.reduceNeg, Int.reduceEq, reduceCtorEq, Nat.reduceMod, Int.reduceBNe, Int.reduceBEq, Int.reduceGT, Int.reduceGE, Int.reduceNe, Int.cast_ofNat_Int, Int.natCast_zero, Int.natCast_one, bne_self_eq_false, gt_iff_lt, ge_iff_le, Int.lt_irrefl, Int.le_refl]
    refine ends_mk [0] ?_ ?_ <;> simp -implicitDefEqProofs only [go_sem, reduceIte, Nat.reduceAdd, Nat.reduceSub, Nat.reduceMul, Nat.reduceLT, Nat.reduceLeDiff, Nat.reduceEqDiff, Nat.reduceBEq, Int.reduceLE, Int.reduceLT, Int.reduceToNat, Int.reduceMul, Int.reduceAdd, Int.reduceSub, Int.reduceNeg, Int.reduceEq, reduceCtorEq, Nat.reduceMod, Int.reduceBNe, Int.reduceBEq, Int.reduceGT, Int.reduceGE, Int.reduceNe, Int.cast_ofNat_Int, Int.natCast_zero, Int.natCast_one, bne_self_eq_false, gt_iff_lt, ge_iff_le, Int.lt_irrefl, Int.le_refl]
    exact List.take_of_length_le (by rw [lnT_length]; exact Nat.le_refl _)
def mkL (all : List (List (BitVec 8))) : Nat → List Lnk
  | 0 => []
  | k + 1 => mkL all k ++ [⟨(all[k]?).getD [], stepV (befV (mkL all k) k) k (ofV ((all[k]?).getD []))⟩]
theorem mkL_len (all : List (List (BitVec 8))) : ∀ k, (mkL all k).length = k
  | 0 => rfl
  | k + 1 => by simp only [mkL, List.length_append, mkL_len all k]; rfl
theorem mkL_OK (all : List (List (BitVec 8))) : ∀ k, lnOK (mkL all k)
  | 0 => fun x hx => by simp [mkL] at hx
  | k + 1 => fun x hx => by
    rcases List.mem_append.1 hx with h | h
    · exact mkL_OK all k x h
    · rw [List.mem_singleton.1 h]
      exact stepV_len _ _ _
theorem mkL_step {all : List (List (BitVec 8))} {k : Nat} (hk : k < all.length) : mkL all (k + 1) = mkL all k ++ [⟨all[k], stepV (befV (mkL all k) k) k (ofV all[k])⟩] := by
  simp only [mkL, List.getElem?_eq_getElem hk, Option.getD_some]
theorem befV_mk {all : List (List (BitVec 8))} {k : Nat} (hk : k < all.length) : befV (mkL all (k + 1)) (k + 1) = stepV (befV (mkL all k) k) k (ofV all[k]) := by
  rw [befV_succ (by rw [mkL_len]; omega)]
  simp only [mkL_step hk]
  rw [List.getElem_append_right (by rw [mkL_len]; exact Nat.le_refl _)]
  simp [mkL_len]
def smallL (all : List (List (BitVec 8))) : Prop := ∀ k (hk : k < all.length), all[k].length ≤ 200
theorem s_chain_Make (all : List (List (BitVec 8))) (h40 : all.length ≤ 40) (hs : smallL all) : Spec Tryd.prog 29 [.sl (catE all)] [.row 0 33 (lnT (mkL all all.length)) true] (.tup [.row 0 0 0 all.length, .t (.i .i64 0) true]) := by
  refine spec_ko (hold mixed) b_chain_Make [.row 0 33 (lnT (mkL all all.length)) true] [.row 0 0 0 all.length, .t (.i .i64 0) true] ?_
  have h1 : ((40 : Int) < (all.length : Int)) = False := eq_false (by omega)
  simp -implicitDefEqProofs only [go_sem, reduceIte, Nat.reduceAdd, Nat.reduceSub, Nat.reduceMul, Nat.reduceLT, Nat.reduceLeDiff, Nat.reduceEqDiff, Nat.reduceBEq, Int.reduceLE, Int.reduceLT, Int.reduceToNat, Int.reduceMul, Int.reduceAdd, Int.reduceSub, Int.reduceNeg, Int.reduceEq, reduceCtorEq, Nat.reduceMod, Int.reduceBNe, Int.reduceBEq, Int.reduceGT, Int.reduceGE, Int.reduceNe, Int.cast_ofNat_Int, Int.natCast_zero, Int.natCast_one, bne_self_eq_false, gt_iff_lt, ge_iff_le, Int.lt_irrefl, Int.le_refl, catE_length, h1]
  refine loop_l (α := Nat) (fun k => ⟨tmL [(4, .row 1 k 0 k), (5, .ptr 0 0), (13, .t (.sl (catE all)) false), (14, .t (.i .i64 all.length) true), (15, .t (.i .i64 k) true)], [.var (bC (befV (mkL all k) k)), .row k 33 (lnT (mkL all k)) true]⟩) (fun k => all.length - k) (fun k => k ≤ all.length) 0 (by simp -implicitDefEqProofs only [go_sem, reduceIte, Nat.reduceAdd, Nat.reduceSub, Nat.reduceMul, Nat.reduceLT, Nat.reduceLeDiff, Nat.reduceEqDiff, Nat.reduceBEq, Int.reduceLE, Int.reduceLT, Int.reduceToNat, Int.reduceMul, Int.reduceAdd, Int.reduceSub, Int.reduceNeg, Int.reduceEq, reduceCtorEq, Nat.reduceMod, befV_0]; rfl) (Nat.zero_le _) ?_
  intro k hk R hR
  have hml := mkL_len all k
  simp -implicitDefEqProofs only [go_sem, reduceIte, Nat.reduceAdd, Nat.reduceSub, Nat.reduceMul, Nat.reduceLT, Nat.reduceLeDiff, Nat.reduceEqDiff, Nat.reduceBEq, Int.reduceLE, Int.reduceLT, Int.reduceToNat, Int.reduceMul, Int.reduceAdd, Int.reduceSub, Int.reduceNeg, Int.reduceEq, reduceCtorEq, Nat.reduceMod, Int.reduceBNe, Int.reduceBEq, Int.reduceGT, Int.reduceGE, Int.reduceNe, Int.cast_ofNat_Int, Int.natCast_zero, Int.natCast_one, bne_self_eq_false, gt_iff_lt, ge_iff_le, Int.lt_irrefl, Int.le_refl]
  refine wcond_mk (fun hh => ?_) (fun hh => ?_)
  · have hk' : k < all.length := by have := of_decide_eq_true hh; omega
    have hd := hs k hk'
    have hd' : ((200 : Int) < (all[k].length : Int)) = False := eq_false (by omega)
    have hb32 := befV_len (mkL_OK all k) k
    have hst := stepV_len (befV (mkL all k) k) k (ofV all[k])
    have hms := mkL_step hk'
    have hbm := befV_mk hk'
    simp -implicitDefEqProofs only [go_sem, reduceIte, Nat.reduceAdd, Nat.reduceSub, Nat.reduceMul, Nat.reduceLT, Nat.reduceLeDiff, Nat.reduceEqDiff, Nat.reduceBEq, Int.reduceLE, Int.reduceLT, Int.reduceToNat, Int.reduceMul, Int.reduceAdd, Int.reduceSub, Int.reduceNeg, Int.reduceEq, reduceCtorEq, Nat.reduceMod, Int.reduceBNe, Int.reduceBEq, Int.reduceGT, Int.reduceGE, Int.reduceNe, Int.cast_ofNat_Int, Int.natCast_zero, Int.natCast_one, bne_self_eq_false, gt_iff_lt, ge_iff_le, Int.lt_irrefl, Int.le_refl, catE_get hk', catE_length, hd', hb32, bC_take hb32]
    first | refine call_k (s_chain_next (befV (mkL all k) k) k all[k] hb32 (by omega) (by omega)) ?_ | refine call_d (s_chain_next (befV (mkL all k) k) k all[k] hb32 (by omega) (by omega)) ?_
    generalize stepV (befV (mkL all k) k) k (ofV all[k]) = st at *
    simp -implicitDefEqProofs only [go_sem, reduceIte, Nat.reduceAdd, Nat.reduceSub, Nat.reduceMul, Nat.reduceLT, Nat.reduceLeDiff, Nat.reduceEqDiff, Nat.reduceBEq, Int.reduceLE, Int.reduceLT, Int.reduceToNat, Int.reduceMul, Int.reduceAdd, Int.reduceSub, Int.reduceNeg, Int.reduceEq, reduceCtorEq, Nat.reduceMod, Int.reduceBNe, Int.reduceBEq, Int.reduceGT, Int.reduceGE, Int.reduceNe, Int.cast_ofNat_Int, Int.natCast_zero, Int.natCast_one, bne_self_eq_false, gt_iff_lt, ge_iff_le, Int.lt_irrefl, Int.le_refl, bN_map, hst, bC_take hst, catE_length]
    refine ⟨bC_one _, ?_⟩
    first | refine call_k (s_slices_Clone all[k] (by omega)) ?_ | refine call_d (s_slices_Clone all[k] (by omega)) ?_
    simp -implicitDefEqProofs only [go_sem, reduceIte, Nat.reduceAdd, Nat.reduceSub, Nat.reduceMul, Nat.reduceLT, Nat.reduceLeDiff, Nat.reduceEqDiff, Nat.reduceBEq, Int.reduceLE, Int.reduceLT, Int.reduceToNat, Int.reduceMul, Int.reduceAdd, Int.reduceSub, Int.reduceNeg, Int.reduceEq, reduceCtorEq, Nat.reduceMod, Int.reduceBNe, Int.reduceBEq, Int.reduceGT, Int.reduceGE, Int.reduceNe, Int.cast_ofNat_Int, Int.natCast_zero, Int.natCast_one, bne_self_eq_false, gt_iff_lt, ge_iff_le, Int.lt_irrefl, Int.le_refl, bC_take hst, hst, embs_bC, hb32, bC_drop hb32]
    refine ⟨⟨okEs_lnT (l := [⟨all[k], st⟩]) (fun x hx => by rw [List.mem_singleton.1 hx]; exact hst), by omega, by unfold room; omega⟩, bC_one _, hR (k + 1) _ ?_ (by omega) (by omega)⟩
    simp -implicitDefEqProofs only [go_sem, reduceIte, Nat.reduceAdd, Nat.reduceSub, Nat.reduceMul, Nat.reduceLT, Nat.reduceLeDiff, Nat.reduceEqDiff, Nat.reduceBEq, Int.reduceLE, Int.reduceLT, Int.reduceToNat, Int.reduceMul, Int.reduceAdd, Int.reduceSub, Int.reduceNeg, Int.reduceEq, reduceCtorEq, Nat.reduceMod, wrap_i64_id (show -9223372036854775808 ≤ (k : Int) + 1 by omega) (by omega), Int.natCast_add, hbm]
    rw [List.take_of_length_le (show (lnT (mkL all k)).length ≤ k by rw [lnT_length]; omega), hms, lnT_append]
    rfl
  · have hk' : k = all.length := by have := of_decide_eq_false hh; omega
    subst hk'
    simp -implicitDefEqProofs only [go_sem, reduceIte, Nat.reduceAdd, Nat.reduceSub, Nat.reduceMul, Nat.reduceLT, Nat.reduceLeDiff, Nat.reduceEqDiff, Nat.reduceBEq, Int.reduceLE, Int.reduceLT, Int.reduceToNat, Int.reduceMul, Int.reduceAdd, Int.reduceSub, Int.reduceNeg, Int.reduceEq, reduceCtorEq, Nat.reduceMod, Int.reduceBNe, Int.reduceBEq, Int.reduceGT, Int.reduceGE, Int.reduceNe, Int.cast_ofNat_Int, Int.natCast_zero, Int.natCast_one, bne_self_eq_false, gt_iff_lt, ge_iff_le, Int.lt_irrefl, Int.le_refl]
    refine ends_mk [1] ?_ ?_ <;> simp -implicitDefEqProofs only [go_sem, reduceIte, Nat.reduceAdd, Nat.reduceSub, Nat.reduceMul, Nat.reduceLT, Nat.reduceLeDiff, Nat.reduceEqDiff, Nat.reduceBEq, Int.reduceLE, Int.reduceLT, Int.reduceToNat, Int.reduceMul, Int.reduceAdd, Int.reduceSub, Int.reduceNeg, Int.reduceEq, reduceCtorEq, Nat.reduceMod, Int.reduceBNe, Int.reduceBEq, Int.reduceGT, Int.reduceGE, Int.reduceNe, Int.cast_ofNat_Int, Int.natCast_zero, Int.natCast_one, bne_self_eq_false, gt_iff_lt, ge_iff_le, Int.lt_irrefl, Int.le_refl]
    exact List.take_of_length_le (by rw [lnT_length]; exact Nat.le_refl _)
def makeE (all : List (List (BitVec 8))) : Int := if 40 < all.length then 4 else if all.any (fun x => decide (200 < x.length)) = true then 8 else 0
def makeV (all : List (List (BitVec 8))) : List Lnk := if makeE all = 0 then mkL all all.length else []
theorem makeE_0 {all : List (List (BitVec 8))} (h : makeE all = 0) : all.length ≤ 40 ∧ smallL all := by
  unfold makeE at h
  split at h
  · cases h
  · split at h
    · cases h
    · rename_i h1 h2
      refine ⟨by omega, fun j hj => ?_⟩
      rcases Nat.lt_or_ge 200 all[j].length with hb | hb
      · exact absurd (List.any_eq_true.2 ⟨all[j], List.getElem_mem hj, decide_eq_true hb⟩) h2
      · exact hb
theorem s_chain_MakeN (all : List (List (BitVec 8))) (he : makeE all ≠ 0) : Spec Tryd.prog 29 [.sl (catE all)] [] (.tup [.t (.sl []) true, .t (.i .i64 (makeE all)) true]) := by
  refine spec_k (hold mixed) b_chain_Make [(.sl [], true), (.i .i64 (makeE all), true)] ?_
  by_cases h40 : 40 < all.length
  · have h1 : ((40 : Int) < (all.length : Int)) = True := eq_true (by omega)
    rw [show makeE all = 4 from if_pos h40]
    simp -implicitDefEqProofs only [go_sem, reduceIte, Nat.reduceAdd, Nat.reduceSub, Nat.reduceMul, Nat.reduceLT, Nat.reduceLeDiff, Nat.reduceEqDiff, Nat.reduceBEq, Int.reduceLE, Int.reduceLT, Int.reduceToNat, Int.reduceMul, Int.reduceAdd, Int.reduceSub, Int.reduceNeg, Int.reduceEq, reduceCtorEq, Nat.reduceMod, Int.reduceBNe, Int.reduceBEq, Int.reduceGT, Int.reduceGE, Int.reduceNe, Int.cast_ofNat_Int, Int.natCast_zero, Int.natCast_one, bne_self_eq_false, gt_iff_lt, ge_iff_le, Int.lt_irrefl, Int.le_refl, catE_length, h1]
  · have h1 : ((40 : Int) < (all.length : Int)) = False := eq_false (by omega)
    have h8 : all.any (fun x => decide (200 < x.length)) = true := by
      unfold makeE at he
      rw [if_neg h40] at he
      split at he
      · assumption
      · exact absurd rfl he
    rw [show makeE all = 8 by unfold makeE; rw [if_neg h40, if_pos h8]]
    simp -implicitDefEqProofs only [go_sem, reduceIte, Nat.reduceAdd, Nat.reduceSub, Nat.reduceMul, Nat.reduceLT, Nat.reduceLeDiff, Nat.reduceEqDiff, Nat.reduceBEq, Int.reduceLE, Int.reduceLT, Int.reduceToNat, Int.reduceMul, Int.reduceAdd, Int.reduceSub, Int.reduceNeg, Int.reduceEq, reduceCtorEq, Nat.reduceMod, Int.reduceBNe, Int.reduceBEq, Int.reduceGT, Int.reduceGE, Int.reduceNe, Int.cast_ofNat_Int, Int.natCast_zero, Int.natCast_one, bne_self_eq_false, gt_iff_lt, ge_iff_le, Int.lt_irrefl, Int.le_refl, catE_length, h1]
    refine loop_l (α := Nat) (fun k => ⟨tmL [(4, .row 1 k 0 k), (5, .ptr 0 0), (13, .t (.sl (catE all)) false), (14, .t (.i .i64 all.length) true), (15, .t (.i .i64 k) true)], [.var (bC (befV (mkL all k) k)), .row k 33 (lnT (mkL all k)) true]⟩) (fun k => all.length - k) (fun k => k ≤ all.length ∧ ∀ j (hj : j < k) (hj2 : j < all.length), all[j].length ≤ 200) 0 (by simp -implicitDefEqProofs only [go_sem, reduceIte, Nat.reduceAdd, Nat.reduceSub, Nat.reduceMul, Nat.reduceLT, Nat.reduceLeDiff, Nat.reduceEqDiff, Nat.reduceBEq, Int.reduceLE, Int.reduceLT, Int.reduceToNat, Int.reduceMul, Int.reduceAdd, Int.reduceSub, Int.reduceNeg, Int.reduceEq, reduceCtorEq, Nat.reduceMod, befV_0]; rfl) ⟨Nat.zero_le _, fun j hj => by omega⟩ ?_
    rintro k ⟨hk, ha⟩ R hR
    have hml := mkL_len all k
    simp -implicitDefEqProofs only [go_sem, reduceIte, Nat.reduceAdd, Nat.reduceSub, Nat.reduceMul, Nat.reduceLT, Nat.reduceLeDiff, Nat.reduceEqDiff, Nat.reduceBEq, Int.reduceLE, Int.reduceLT, Int.reduceToNat, Int.reduceMul, Int.reduceAdd, Int.reduceSub, Int.reduceNeg, Int.reduceEq, reduceCtorEq, Nat.reduceMod, Int.reduceBNe, Int.reduceBEq, Int.reduceGT, Int.reduceGE, Int.reduceNe, Int.cast_ofNat_Int, Int.natCast_zero, Int.natCast_one, bne_self_eq_false, gt_iff_lt, ge_iff_le, Int.lt_irrefl, Int.le_refl]
    refine wcond_mk (fun hh => ?_) (fun hh => ?_)
    · have hk' : k < all.length := by have := of_decide_eq_true hh; omega
      rcases Nat.lt_or_ge 200 all[k].length with hd | hd
      · have hd' : ((200 : Int) < (all[k].length : Int)) = True := eq_true (by omega)
        simp -implicitDefEqProofs only [go_sem, reduceIte, Nat.reduceAdd, Nat.reduceSub, Nat.reduceMul, Nat.reduceLT, Nat.reduceLeDiff, Nat.reduceEqDiff, Nat.reduceBEq, Int.reduceLE, Int.reduceLT, Int.reduceToNat, Int.reduceMul, Int.reduceAdd, Int.reduceSub, Int.reduceNeg, Int.reduceEq, reduceCtorEq, Nat.reduceMod, Int.reduceBNe, Int.reduceBEq, Int.reduceGT, Int.reduceGE, Int.reduceNe, Int.cast_ofNat_Int, Int.natCast_zero, Int.natCast_one, bne_self_eq_false, gt_iff_lt, ge_iff_le, Int.lt_irrefl, Int.le_refl, catE_get hk', catE_length, hd']
      · have hd' : ((200 : Int) < (all[k].length : Int)) = False := eq_false (by omega)
        have hb32 := befV_len (mkL_OK all k) k
        have hst := stepV_len (befV (mkL all k) k) k (ofV all[k])
        have hms := mkL_step hk'
        have hbm := befV_mk hk'
        simp -implicitDefEqProofs only [go_sem, reduceIte, Nat.reduceAdd, Nat.reduceSub, Nat.reduceMul, Nat.reduceLT, Nat.reduceLeDiff, Nat.reduceEqDiff, Nat.reduceBEq, Int.reduceLE, Int.reduceLT, Int.reduceToNat, Int.reduceMul, Int.reduceAdd, Int.reduceSub, Int.reduceNeg, Int.reduceEq, reduceCtorEq, Nat.reduceMod, Int.reduceBNe, Int.reduceBEq, Int.reduceGT, Int.reduceGE, Int.reduceNe, Int.cast_ofNat_Int, Int.natCast_zero, Int.natCast_one, bne_self_eq_false, gt_iff_lt, ge_iff_le, Int.lt_irrefl, Int.le_refl, catE_get hk', catE_length, hd', hb32, bC_take hb32]
        first | refine call_k (s_chain_next (befV (mkL all k) k) k all[k] hb32 (by omega) (by omega)) ?_ | refine call_d (s_chain_next (befV (mkL all k) k) k all[k] hb32 (by omega) (by omega)) ?_
        generalize stepV (befV (mkL all k) k) k (ofV all[k]) = st at *
        simp -implicitDefEqProofs only [go_sem, reduceIte, Nat.reduceAdd, Nat.reduceSub, Nat.reduceMul, Nat.reduceLT, Nat.reduceLeDiff, Nat.reduceEqDiff, Nat.reduceBEq, Int.reduceLE, Int.reduceLT, Int.reduceToNat, Int.reduceMul, Int.reduceAdd, Int.reduceSub, Int.reduceNeg, Int.reduceEq, reduceCtorEq, Nat.reduceMod, Int.reduceBNe, Int.reduceBEq, Int.reduceGT, Int.reduceGE, Int.reduceNe, Int.cast_ofNat_Int, Int.natCast_zero, Int.natCast_one, bne_self_eq_false, gt_iff_lt, ge_iff_le, Int.lt_irrefl, Int.le_refl, bN_map, hst, bC_take hst, catE_length]
        refine ⟨bC_one _, ?_⟩
        first | refine call_k (s_slices_Clone all[k] (by omega)) ?_ | refine call_d (s_slices_Clone all[k] (by omega)) ?_
        simp -implicitDefEqProofs only [go_sem, reduceIte, Nat.reduceAdd, Nat.reduceSub, Nat.reduceMul, Nat.reduceLT, Nat.reduceLeDiff, Nat.reduceEqDiff, Nat.reduceBEq, Int.reduceLE, Int.reduceLT, Int.reduceToNat, Int.reduceMul, Int.reduceAdd, Int.reduceSub, Int.reduceNeg, Int.reduceEq, reduceCtorEq, Nat.reduceMod, Int.reduceBNe, Int.reduceBEq, Int.reduceGT, Int.reduceGE, Int.reduceNe, Int.cast_ofNat_Int, Int.natCast_zero, Int.natCast_one, bne_self_eq_false, gt_iff_lt, ge_iff_le, Int.lt_irrefl, Int.le_refl, bC_take hst, hst, embs_bC, hb32, bC_drop hb32]
        refine ⟨⟨okEs_lnT (l := [⟨all[k], st⟩]) (fun x hx => by rw [List.mem_singleton.1 hx]; exact hst), by omega, by unfold room; omega⟩, bC_one _, hR (k + 1) _ ?_ ⟨by omega, fun j hj hj2 => by rcases Nat.lt_or_ge j k with h | h; exact ha j h hj2; obtain rfl : j = k := (by omega); exact hd⟩ (by omega)⟩
        simp -implicitDefEqProofs only [go_sem, reduceIte, Nat.reduceAdd, Nat.reduceSub, Nat.reduceMul, Nat.reduceLT, Nat.reduceLeDiff, Nat.reduceEqDiff, Nat.reduceBEq, Int.reduceLE, Int.reduceLT, Int.reduceToNat, Int.reduceMul, Int.reduceAdd, Int.reduceSub, Int.reduceNeg, Int.reduceEq, reduceCtorEq, Nat.reduceMod, wrap_i64_id (show -9223372036854775808 ≤ (k : Int) + 1 by omega) (by omega), Int.natCast_add, hbm]
        rw [List.take_of_length_le (show (lnT (mkL all k)).length ≤ k by rw [lnT_length]; omega), hms, lnT_append]
        rfl
    · have hk' : k = all.length := by have := of_decide_eq_false hh; omega
      subst hk'
      exfalso
      obtain ⟨x, hx, hd⟩ := List.any_eq_true.1 h8
      obtain ⟨j, hj, rfl⟩ := List.getElem_of_mem hx
      have := ha j hj hj
      have := of_decide_eq_true hd
      omega
theorem lnT_take (l : List Lnk) : List.take l.length (lnT l) = lnT l := List.take_of_length_le (by rw [lnT_length]; exact Nat.le_refl _)
theorem s_MakeT (all : List (List (BitVec 8))) : Spec Tryd.prog 29 [.sl (catE all)] [] (.tup [.t (.sl (lnT (makeV all))) true, .t (.i .i64 (makeE all)) true]) := by
  by_cases he : makeE all = 0
  · obtain ⟨h1, h2⟩ := makeE_0 he
    have hm := lnT_take (mkL all all.length)
    rw [mkL_len] at hm
    rw [show makeV all = mkL all all.length from if_pos he, he]
    exact (s_chain_Make all h1 h2).tree (by simp -implicitDefEqProofs only [go_sem, reduceIte, Nat.reduceAdd, Nat.reduceSub, Nat.reduceMul, Nat.reduceLT, Nat.reduceLeDiff, Nat.reduceEqDiff, Nat.reduceBEq, Int.reduceLE, Int.reduceLT, Int.reduceToNat, Int.reduceMul, Int.reduceAdd, Int.reduceSub, Int.reduceNeg, Int.reduceEq, reduceCtorEq, Nat.reduceMod, hm, mkL_len])
  · rw [show makeV all = [] from if_neg he]
    exact s_chain_MakeN all he
theorem headE_0 {l : List Lnk} (h : headE l = 0) : checkV l = 0 ∧ firstV l < 0 := by
  unfold headE at h
  split at h
  · split at h
    · exact ⟨by assumption, by assumption⟩
    · cases h
  · exact absurd h (by assumption)
def greatB (all : List (List (BitVec 8))) : Bool := all.any (fun x => decide (300 < x.length)) || ((decide (12 < all.length) && decide (all.length ≤ 40)) || decide (50 < all.length))
theorem s_ref44_GreatBytes (all : List (List (BitVec 8))) (hn : all.length ≤ 140737488355328) : Spec Tryd.prog 28 [.sl (catE all)] [] (.t (.b (greatB all)) true) := by
  refine spec_k (hold mixed) b_ref44_GreatBytes [(.b (greatB all), true)] ?_
  simp -implicitDefEqProofs only [go_sem, reduceIte, Nat.reduceAdd, Nat.reduceSub, Nat.reduceMul, Nat.reduceLT, Nat.reduceLeDiff, Nat.reduceEqDiff, Nat.reduceBEq, Int.reduceLE, Int.reduceLT, Int.reduceToNat, Int.reduceMul, Int.reduceAdd, Int.reduceSub, Int.reduceNeg, Int.reduceEq, reduceCtorEq, Nat.reduceMod, Int.reduceBNe, Int.reduceBEq, Int.reduceGT, Int.reduceGE, Int.reduceNe, Int.cast_ofNat_Int, Int.natCast_zero, Int.natCast_one, bne_self_eq_false, gt_iff_lt, ge_iff_le, Int.lt_irrefl, Int.le_refl]
  refine loop_l (α := Nat) (fun k => ⟨tmL [(0, .t (.sl (catE all)) false), (3, .t (.i .i64 k) true)], []⟩) (fun k => all.length - k) (fun k => k ≤ all.length ∧ ∀ j (hj : j < k) (hj2 : j < all.length), all[j].length ≤ 300) 0 (by simp -implicitDefEqProofs only [go_sem, reduceIte, Nat.reduceAdd, Nat.reduceSub, Nat.reduceMul, Nat.reduceLT, Nat.reduceLeDiff, Nat.reduceEqDiff, Nat.reduceBEq, Int.reduceLE, Int.reduceLT, Int.reduceToNat, Int.reduceMul, Int.reduceAdd, Int.reduceSub, Int.reduceNeg, Int.reduceEq, reduceCtorEq, Nat.reduceMod]; rfl) ⟨Nat.zero_le _, fun j hj => by omega⟩ ?_
  rintro k ⟨hk, ha⟩ R hR
  simp -implicitDefEqProofs only [go_sem, reduceIte, Nat.reduceAdd, Nat.reduceSub, Nat.reduceMul, Nat.reduceLT, Nat.reduceLeDiff, Nat.reduceEqDiff, Nat.reduceBEq, Int.reduceLE, Int.reduceLT, Int.reduceToNat, Int.reduceMul, Int.reduceAdd, Int.reduceSub, Int.reduceNeg, Int.reduceEq, reduceCtorEq, Nat.reduceMod, Int.reduceBNe, Int.reduceBEq, Int.reduceGT, Int.reduceGE, Int.reduceNe, Int.cast_ofNat_Int, Int.natCast_zero, Int.natCast_one, bne_self_eq_false, gt_iff_lt, ge_iff_le, Int.lt_irrefl, Int.le_refl, catE_length]
  refine wcond_mk (fun hh => ?_) (fun hh => ?_)
  · have hk' : k < all.length := by have := of_decide_eq_true hh; omega
    simp -implicitDefEqProofs only [go_sem, reduceIte, Nat.reduceAdd, Nat.reduceSub, Nat.reduceMul, Nat.reduceLT, Nat.reduceLeDiff, Nat.reduceEqDiff, Nat.reduceBEq, Int.reduceLE, Int.reduceLT, Int.reduceToNat, Int.reduceMul, Int.reduceAdd, Int.reduceSub, Int.reduceNeg, Int.reduceEq, reduceCtorEq, Nat.reduceMod, Int.reduceBNe, Int.reduceBEq, Int.reduceGT, Int.reduceGE, Int.reduceNe, Int.cast_ofNat_Int, Int.natCast_zero, Int.natCast_one, bne_self_eq_false, gt_iff_lt, ge_iff_le, Int.lt_irrefl, Int.le_refl, catE_get hk', catE_length]
    refine wcond_mk (fun hb => ?_) (fun hb => ?_)
    · have hb' : 300 < all[k].length := by have := of_decide_eq_true hb; omega
      have hg : greatB all = true := by
        unfold greatB
        rw [show all.any (fun x => decide (300 < x.length)) = true from List.any_eq_true.2 ⟨all[k], List.getElem_mem hk', decide_eq_true hb'⟩]
        rfl
      simp -implicitDefEqProofs only [go_sem, reduceIte, Nat.reduceAdd, Nat.reduceSub, Nat.reduceMul, Nat.reduceLT, Nat.reduceLeDiff, Nat.reduceEqDiff, Nat.reduceBEq, Int.reduceLE, Int.reduceLT, Int.reduceToNat, Int.reduceMul, Int.reduceAdd, Int.reduceSub, Int.reduceNeg, Int.reduceEq, reduceCtorEq, Nat.reduceMod, Int.reduceBNe, Int.reduceBEq, Int.reduceGT, Int.reduceGE, Int.reduceNe, Int.cast_ofNat_Int, Int.natCast_zero, Int.natCast_one, bne_self_eq_false, gt_iff_lt, ge_iff_le, Int.lt_irrefl, Int.le_refl, hg]
    · have hb' : all[k].length ≤ 300 := by have := of_decide_eq_false hb; omega
      simp -implicitDefEqProofs only [go_sem, reduceIte, Nat.reduceAdd, Nat.reduceSub, Nat.reduceMul, Nat.reduceLT, Nat.reduceLeDiff, Nat.reduceEqDiff, Nat.reduceBEq, Int.reduceLE, Int.reduceLT, Int.reduceToNat, Int.reduceMul, Int.reduceAdd, Int.reduceSub, Int.reduceNeg, Int.reduceEq, reduceCtorEq, Nat.reduceMod, Int.reduceBNe, Int.reduceBEq, Int.reduceGT, Int.reduceGE, Int.reduceNe, Int.cast_ofNat_Int, Int.natCast_zero, Int.natCast_one, bne_self_eq_false, gt_iff_lt, ge_iff_le, Int.lt_irrefl, Int.le_refl]
      refine hR (k + 1) _ ?_ ⟨by omega, fun j hj hj2 => ?_⟩ (by omega)
      · simp -implicitDefEqProofs only [go_sem, reduceIte, Nat.reduceAdd, Nat.reduceSub, Nat.reduceMul, Nat.reduceLT, Nat.reduceLeDiff, Nat.reduceEqDiff, Nat.reduceBEq, Int.reduceLE, Int.reduceLT, Int.reduceToNat, Int.reduceMul, Int.reduceAdd, Int.reduceSub, Int.reduceNeg, Int.reduceEq, reduceCtorEq, Nat.reduceMod, wrap_i64_id (show -9223372036854775808 ≤ (k : Int) + 1 by omega) (by omega), Int.natCast_add]
        rfl
      · rcases Nat.lt_or_ge j k with h | h
        · exact ha j h hj2
        · obtain rfl : j = k := by omega
          exact hb'
  · have hk' : k = all.length := by have := of_decide_eq_false hh; omega
    subst hk'
    have hg : all.any (fun x => decide (300 < x.length)) = false := by
      rw [List.any_eq_false]
      intro x hx
      obtain ⟨j, hj, rfl⟩ := List.getElem_of_mem hx
      have := ha j hj hj
      simp
      omega
    have hgg : greatB all = ((decide (12 < all.length) && decide (all.length ≤ 40)) || decide (50 < all.length)) := by unfold greatB; rw [hg]; rfl
    clear hR ha
    by_cases c1 : 12 < all.length
    · have d1 : ((12 : Int) < (all.length : Int)) = True := eq_true (by omega)
      by_cases c2 : all.length ≤ 40
      · have d2 : ((all.length : Int) ≤ 40) = True := eq_true (by omega)
        simp -implicitDefEqProofs only [go_sem, reduceIte, Nat.reduceAdd, Nat.reduceSub, Nat.reduceMul, Nat.reduceLT, Nat.reduceLeDiff, Nat.reduceEqDiff, Nat.reduceBEq, Int.reduceLE, Int.reduceLT, Int.reduceToNat, Int.reduceMul, Int.reduceAdd, Int.reduceSub, Int.reduceNeg, Int.reduceEq, reduceCtorEq, Nat.reduceMod, Int.reduceBNe, Int.reduceBEq, Int.reduceGT, Int.reduceGE, Int.reduceNe, Int.cast_ofNat_Int, Int.natCast_zero, Int.natCast_one, bne_self_eq_false, gt_iff_lt, ge_iff_le, Int.lt_irrefl, Int.le_refl, d1, d2, hgg, c1, c2, catE_length]
      · have d2 : ((all.length : Int) ≤ 40) = False := eq_false (by omega)
        simp -implicitDefEqProofs only [go_sem, reduceIte, Nat.reduceAdd, Nat.reduceSub, Nat.reduceMul, Nat.reduceLT, Nat.reduceLeDiff, Nat.reduceEqDiff, Nat.reduceBEq, Int.reduceLE, Int.reduceLT, Int.reduceToNat, Int.reduceMul, Int.reduceAdd, Int.reduceSub, Int.reduceNeg, Int.reduceEq, reduceCtorEq, Nat.reduceMod, Int.reduceBNe, Int.reduceBEq, Int.reduceGT, Int.reduceGE, Int.reduceNe, Int.cast_ofNat_Int, Int.natCast_zero, Int.natCast_one, bne_self_eq_false, gt_iff_lt, ge_iff_le, Int.lt_irrefl, Int.le_refl, d1, d2, hgg, c1, c2, catE_length]
        rw [decide_eq_decide.2 (show (50 : Int) < (all.length : Int) ↔ 50 < all.length by omega)]
    · have d1 : ((12 : Int) < (all.length : Int)) = False := eq_false (by omega)
      simp -implicitDefEqProofs only [go_sem, reduceIte, Nat.reduceAdd, Nat.reduceSub, Nat.reduceMul, Nat.reduceLT, Nat.reduceLeDiff, Nat.reduceEqDiff, Nat.reduceBEq, Int.reduceLE, Int.reduceLT, Int.reduceToNat, Int.reduceMul, Int.reduceAdd, Int.reduceSub, Int.reduceNeg, Int.reduceEq, reduceCtorEq, Nat.reduceMod, Int.reduceBNe, Int.reduceBEq, Int.reduceGT, Int.reduceGE, Int.reduceNe, Int.cast_ofNat_Int, Int.natCast_zero, Int.natCast_one, bne_self_eq_false, gt_iff_lt, ge_iff_le, Int.lt_irrefl, Int.le_refl, d1, hgg, c1, catE_length]
      rw [decide_eq_decide.2 (show (50 : Int) < (all.length : Int) ↔ 50 < all.length by omega)]
theorem areBytes_bT (x : List (BitVec 8)) : areBytes (bT x) := by
  intro e he
  simp only [bT, List.mem_map] at he
  obtain ⟨b, _, rfl⟩ := he
  exact ⟨_, rfl⟩
structure Wit where
  pos : Int
  prev : List (BitVec 8)
  data : List (BitVec 8)
  later : List (List (BitVec 8))
  deriving DecidableEq
def idT (ds : List (List (BitVec 8))) : List (List T) := ds.map bN
theorem idT_length (ds : List (List (BitVec 8))) : (idT ds).length = ds.length := by simp [idT]
theorem idT_append (a b : List (List (BitVec 8))) : idT (a ++ b) = idT a ++ idT b := by simp [idT]
attribute [go_sem] idT_length
def Wit.cells (w : Wit) : List T := .i .i64 w.pos :: (bN w.prev ++ [.sl (bT w.data), .sl (idT w.later)])
def Wit.zero : Wit := ⟨0, z32, [], []⟩
def witV (l : List Lnk) (k : Nat) : Wit := ⟨k, befV l k, ((l[k]?).map Lnk.data).getD [], (l.drop (k + 1)).map fun x => ofV x.data⟩
theorem embs_app' (h : H) (xs ys : List AV) : embs h (xs ++ ys) = match embs h xs, embs h ys with
    | some (a, l, u), some (b, m, v) => some (a ++ b, l && m, u ++ v)
    | _, _ => none := by
  induction xs with
  | nil =>
    simp only [List.nil_append, embs]
    cases embs h ys with
    | none => rfl
    | some p => obtain ⟨a, b, c⟩ := p; simp
  | cons x xs ih =>
    simp only [List.cons_append, embs, ih]
    cases emb h x with
    | none => rfl
    | some p =>
      obtain ⟨a, b, c⟩ := p
      cases embs h xs with
      | none => rfl
      | some q =>
        obtain ⟨a2, b2, c2⟩ := q
        cases embs h ys with
        | none => rfl
        | some r =>
          obtain ⟨a3, b3, c3⟩ := r
          simp [Bool.and_assoc]
theorem zW_len : (bC z32 ++ [AV.nl, AV.nl]).length = 34 := rfl
theorem zW_drop : List.drop 34 (bC z32 ++ [AV.nl, AV.nl]) = [] := rfl
structure IdC (PC : List AV) (d : List (BitVec 8)) : Prop where
  len : PC.length = 32
  emb : ∀ h, embs h PC = some (bN d, true, [])
  to : ∀ m h, List.map (toT1 m h) PC = PC
  all : ∀ m, PC.all (below m) = true
  one : ∀ v ∈ PC, v.one
  arg : ∀ h, argCs h PC (bN d) = True
theorem idC_C {d : List (BitVec 8)} (h : d.length = 32) : IdC (bC d) d := ⟨by rw [bC_len, h], fun _ => embs_bC _ _, fun _ _ => bC_to _ _ _, fun _ => bC_all _ _, bC_one _, fun _ => argCs_bC _ _⟩
theorem idC_F {d : List (BitVec 8)} (h : d.length = 32) : IdC (bF d) d := ⟨by rw [bF_len, h], fun _ => embs_bF _ _, fun _ _ => bF_to _ _ _, fun _ => bF_all _ _, bF_one _, fun _ => argCs_bF _ _⟩
theorem IdC.tk {PC : List AV} {d : List (BitVec 8)} (h : IdC PC d) (X : List AV) (j : Nat) : List.take (32 + j) (PC ++ X) = PC ++ List.take j X := by
  have := List.take_length_add_append (l₁ := PC) (l₂ := X) j
  rwa [h.len] at this
theorem IdC.dr {PC : List AV} {d : List (BitVec 8)} (h : IdC PC d) (X : List AV) (j : Nat) : List.drop (32 + j) (PC ++ X) = List.drop j X := by
  have := List.drop_length_add_append (l₁ := PC) (l₂ := X) j
  rwa [h.len] at this
theorem IdC.at {PC : List AV} {d : List (BitVec 8)} (h : IdC PC d) (X : List AV) (j : Nat) : (PC ++ X)[32 + j]? = X[j]? := by
  rw [List.getElem?_append_right (by rw [h.len]; omega), h.len, Nat.add_sub_cancel_left]
theorem IdC.set1 {PC : List AV} {d : List (BitVec 8)} (h : IdC PC d) (a b v : AV) : (PC ++ [a, b]).set 33 v = PC ++ [a, v] := by
  rw [List.set_append_right _ _ (by rw [h.len]; omega), h.len]
  rfl
def zW : Blk := .var (.t (.i .i64 0) true :: (bC z32 ++ [.nl, .nl]))
def prC (l : List Lnk) (k : Nat) : List AV := if k = 0 then bC z32 else bF (befV l k)
theorem prC_ok {l : List Lnk} (hl : lnOK l) (k : Nat) : IdC (prC l k) (befV l k) := by
  unfold prC
  split
  · rename_i h
    subst h
    exact idC_C rfl
  · exact idC_F (befV_len hl k)
def laterL (l : List Lnk) (k : Nat) : List (List (BitVec 8)) := (l.drop (k + 1)).map fun x => ofV x.data
def wtB (l : List Lnk) (k : Nat) (d : List (BitVec 8)) (v : AV) : Blk := .var (.t (.i .i64 k) true :: (prC l k ++ [.t (.sl (bT d)) true, v]))
def prF (l : List Lnk) (k : Nat) (d : List (BitVec 8)) (j : Nat) : S := ⟨tmL [(4, .ptr 0 0), (8, .ptr 2 0), (51, .t (.sl (lnT (l.drop (k + 1)))) false), (52, .t (.i .i64 (l.length - (k + 1) : Nat)) true), (53, .t (.i .i64 j) true)],
  [zW, .var (bC (headV l)), wtB l k d (.row 3 j 0 j), .row j 32 (idT ((laterL l k).take j)) true]⟩
theorem okEs_idT {ds : List (List (BitVec 8))} (h : ∀ d ∈ ds, d.length = 32) : okEs 32 (idT ds) := by
  intro e he
  simp only [idT, List.mem_map] at he
  obtain ⟨d, hd, rfl⟩ := he
  exact ⟨by rw [bN_len', h d hd], bN_oneT d⟩
theorem s_chain_Prove (l : List Lnk) (hl : lnOK l) (k : Nat) (hk : k < l.length) (he : headE l = 0) : Spec Tryd.prog 44 [.sl (lnT l), .i .i64 k] [] (.tup [.t (.agg (witV l k).cells) true, .t (.i .i64 0) true]) := by
  refine spec_k (hold mixed) b_chain_Prove [(.agg (witV l k).cells, true), (.i .i64 0, true)] ?_
  have hH := s_chain_Head l hl
  rw [he] at hH
  have hh := headV_len hl
  obtain ⟨hc, _⟩ := headE_0 he
  obtain ⟨h40, h200⟩ := checkV_inv hc
  have e1 : ((k : Int) < 0) = False := eq_false (by omega)
  have e2 : ((l.length : Int) ≤ (k : Int)) = False := eq_false (by omega)
  have e3 : ((k : Int) < (l.length : Int)) = True := eq_true (by omega)
  have h32 := lnOK_get hl hk
  have hdk := h200 k hk
  simp -implicitDefEqProofs only [go_sem, reduceIte, Nat.reduceAdd, Nat.reduceSub, Nat.reduceMul, Nat.reduceLT, Nat.reduceLeDiff, Nat.reduceEqDiff, Nat.reduceBEq, Int.reduceLE, Int.reduceLT, Int.reduceToNat, Int.reduceMul, Int.reduceAdd, Int.reduceSub, Int.reduceNeg, Int.reduceEq, reduceCtorEq, Nat.reduceMod, Int.reduceBNe, Int.reduceBEq, Int.reduceGT, Int.reduceGE, Int.reduceNe, Int.cast_ofNat_Int, Int.natCast_zero, Int.natCast_one, bne_self_eq_false, gt_iff_lt, ge_iff_le, Int.lt_irrefl, Int.le_refl, Nat.reduceDiv]
  first | refine call_k hH ?_ | refine call_d hH ?_
  simp -implicitDefEqProofs only [go_sem, reduceIte, Nat.reduceAdd, Nat.reduceSub, Nat.reduceMul, Nat.reduceLT, Nat.reduceLeDiff, Nat.reduceEqDiff, Nat.reduceBEq, Int.reduceLE, Int.reduceLT, Int.reduceToNat, Int.reduceMul, Int.reduceAdd, Int.reduceSub, Int.reduceNeg, Int.reduceEq, reduceCtorEq, Nat.reduceMod, Int.reduceBNe, Int.reduceBEq, Int.reduceGT, Int.reduceGE, Int.reduceNe, Int.cast_ofNat_Int, Int.natCast_zero, Int.natCast_one, bne_self_eq_false, gt_iff_lt, ge_iff_le, Int.lt_irrefl, Int.le_refl, Nat.reduceDiv, bN_map, hh, bC_take hh, e1, e2, e3, lnT_get hk]
  refine ⟨bC_one _, h32, ?_⟩
  first | refine call_k (s_slices_Clone l[k].data (by omega)) ?_ | refine call_d (s_slices_Clone l[k].data (by omega)) ?_
  simp -implicitDefEqProofs only [go_sem, reduceIte, Nat.reduceAdd, Nat.reduceSub, Nat.reduceMul, Nat.reduceLT, Nat.reduceLeDiff, Nat.reduceEqDiff, Nat.reduceBEq, Int.reduceLE, Int.reduceLT, Int.reduceToNat, Int.reduceMul, Int.reduceAdd, Int.reduceSub, Int.reduceNeg, Int.reduceEq, reduceCtorEq, Nat.reduceMod, Int.reduceBNe, Int.reduceBEq, Int.reduceGT, Int.reduceGE, Int.reduceNe, Int.cast_ofNat_Int, Int.natCast_zero, Int.natCast_one, bne_self_eq_false, gt_iff_lt, ge_iff_le, Int.lt_irrefl, Int.le_refl, Nat.reduceDiv]
  have e5 : IntKind.i64.wrap ((k : Int) + 1) = ((k + 1 : Nat) : Int) := by rw [wrap_i64_id (by omega) (by omega)]; omega
  have td : List.take (((l.length : Nat) : Int) - ((k + 1 : Nat) : Int)).toNat (List.drop (k + 1) (lnT l)) = lnT (l.drop (k + 1)) := by
    rw [show List.drop (k + 1) (lnT l) = lnT (l.drop (k + 1)) by simp [lnT]]
    exact List.take_of_length_le (by rw [lnT_length, List.length_drop]; omega)
  have e8 : (((l.length : Nat) : Int) - ((k + 1 : Nat) : Int)).toNat = l.length - (k + 1) := by omega
  have td' := td
  rw [e8] at td'
  rcases Nat.eq_zero_or_pos k with h0 | h0
  · have e4 : ((0 : Int) < (k : Int)) = False := eq_false (by omega)
    simp -implicitDefEqProofs only [go_sem, reduceIte, Nat.reduceAdd, Nat.reduceSub, Nat.reduceMul, Nat.reduceLT, Nat.reduceLeDiff, Nat.reduceEqDiff, Nat.reduceBEq, Int.reduceLE, Int.reduceLT, Int.reduceToNat, Int.reduceMul, Int.reduceAdd, Int.reduceSub, Int.reduceNeg, Int.reduceEq, reduceCtorEq, Nat.reduceMod, Int.reduceBNe, Int.reduceBEq, Int.reduceGT, Int.reduceGE, Int.reduceNe, Int.cast_ofNat_Int, Int.natCast_zero, Int.natCast_one, bne_self_eq_false, gt_iff_lt, ge_iff_le, Int.lt_irrefl, Int.le_refl, Nat.reduceDiv, e4, e5, td, e8, td', List.length_drop]
    refine ⟨⟨by omega, okEs_lnT hl⟩, ?_⟩
    refine loop_l (α := Nat) (prF l k l[k].data) (fun j => l.length - (k + 1) - j) (fun j => j ≤ l.length - (k + 1)) 0 (by subst h0; simp -implicitDefEqProofs only [go_sem, reduceIte, Nat.reduceAdd, Nat.reduceSub, Nat.reduceMul, Nat.reduceLT, Nat.reduceLeDiff, Nat.reduceEqDiff, Nat.reduceBEq, Int.reduceLE, Int.reduceLT, Int.reduceToNat, Int.reduceMul, Int.reduceAdd, Int.reduceSub, Int.reduceNeg, Int.reduceEq, reduceCtorEq, Nat.reduceMod, prF, wtB, zW, prC, laterL, idT, List.take_zero, List.map_nil, Nat.reduceDiv, List.length_drop]; rfl) (Nat.zero_le _) ?_
    intro j hj R hR
    have hPC := prC_ok hl k
    have hls : (laterL l k).length = l.length - (k + 1) := by simp [laterL]
    have t0 := fun X => hPC.tk X 0
    have t1 := fun X => hPC.tk X 1
    have t2 := fun X => hPC.tk X 2
    have d0 := fun X => hPC.dr X 0
    have d1 := fun X => hPC.dr X 1
    have d2 := fun X => hPC.dr X 2
    have a0 := fun X => hPC.at X 0
    have a1 := fun X => hPC.at X 1
    simp only [Nat.reduceAdd, List.drop_zero, List.take_zero, List.append_nil] at t0 t1 t2 d0 d1 d2 a0 a1
    have hPl := hPC.len
    have hPe := hPC.emb
    have hPt := hPC.to
    have hPa := hPC.all
    simp -implicitDefEqProofs only [go_sem, reduceIte, Nat.reduceAdd, Nat.reduceSub, Nat.reduceMul, Nat.reduceLT, Nat.reduceLeDiff, Nat.reduceEqDiff, Nat.reduceBEq, Int.reduceLE, Int.reduceLT, Int.reduceToNat, Int.reduceMul, Int.reduceAdd, Int.reduceSub, Int.reduceNeg, Int.reduceEq, reduceCtorEq, Nat.reduceMod, Int.reduceBNe, Int.reduceBEq, Int.reduceGT, Int.reduceGE, Int.reduceNe, Int.cast_ofNat_Int, Int.natCast_zero, Int.natCast_one, bne_self_eq_false, gt_iff_lt, ge_iff_le, Int.lt_irrefl, Int.le_refl, Nat.reduceDiv, prF, wtB, zW]
    refine wcond_mk (fun hh => ?_) (fun hh => ?_)
    · have hj' : j < l.length - (k + 1) := by have := of_decide_eq_true hh; omega
      have hjl : j < (l.drop (k + 1)).length := by rw [List.length_drop]; omega
      have hjx : (j : Int) < ((l.drop (k + 1)).length : Int) := by omega
      have hx3 : (l.drop (k + 1))[j].sum.length = 32 := lnOK_get (fun x hx => hl x (List.mem_of_mem_drop hx)) hjl
      have hxd : (l.drop (k + 1))[j].data.length ≤ 200 := by
        rw [List.getElem_drop]
        exact h200 _ _
      have hlj : (laterL l k).take (j + 1) = (laterL l k).take j ++ [ofV (l.drop (k + 1))[j].data] := by
        rw [take_snoc (show j < (laterL l k).length by omega)]
        simp [laterL]
      have hof := ofV_len (l.drop (k + 1))[j].data
      simp -implicitDefEqProofs only [go_sem, reduceIte, Nat.reduceAdd, Nat.reduceSub, Nat.reduceMul, Nat.reduceLT, Nat.reduceLeDiff, Nat.reduceEqDiff, Nat.reduceBEq, Int.reduceLE, Int.reduceLT, Int.reduceToNat, Int.reduceMul, Int.reduceAdd, Int.reduceSub, Int.reduceNeg, Int.reduceEq, reduceCtorEq, Nat.reduceMod, Int.reduceBNe, Int.reduceBEq, Int.reduceGT, Int.reduceGE, Int.reduceNe, Int.cast_ofNat_Int, Int.natCast_zero, Int.natCast_one, bne_self_eq_false, gt_iff_lt, ge_iff_le, Int.lt_irrefl, Int.le_refl, Nat.reduceDiv, lnT_get hjl, List.length_drop, eq_true hjx, hx3, bN_take hx3, bN_mapF]
      refine ⟨bF_one _, ?_⟩
      first | refine call_k (s_Sum' (l.drop (k + 1))[j].data (by omega)) ?_ | refine call_d (s_Sum' (l.drop (k + 1))[j].data (by omega)) ?_
      simp -implicitDefEqProofs only [go_sem, reduceIte, Nat.reduceAdd, Nat.reduceSub, Nat.reduceMul, Nat.reduceLT, Nat.reduceLeDiff, Nat.reduceEqDiff, Nat.reduceBEq, Int.reduceLE, Int.reduceLT, Int.reduceToNat, Int.reduceMul, Int.reduceAdd, Int.reduceSub, Int.reduceNeg, Int.reduceEq, reduceCtorEq, Nat.reduceMod, Int.reduceBNe, Int.reduceBEq, Int.reduceGT, Int.reduceGE, Int.reduceNe, Int.cast_ofNat_Int, Int.natCast_zero, Int.natCast_one, bne_self_eq_false, gt_iff_lt, ge_iff_le, Int.lt_irrefl, Int.le_refl, Nat.reduceDiv, bN_map, hof, bC_take hof]
      refine ⟨bC_one _, ?_⟩
      simp -implicitDefEqProofs only [go_sem, reduceIte, Nat.reduceAdd, Nat.reduceSub, Nat.reduceMul, Nat.reduceLT, Nat.reduceLeDiff, Nat.reduceEqDiff, Nat.reduceBEq, Int.reduceLE, Int.reduceLT, Int.reduceToNat, Int.reduceMul, Int.reduceAdd, Int.reduceSub, Int.reduceNeg, Int.reduceEq, reduceCtorEq, Nat.reduceMod, Int.reduceBNe, Int.reduceBEq, Int.reduceGT, Int.reduceGE, Int.reduceNe, Int.cast_ofNat_Int, Int.natCast_zero, Int.natCast_one, bne_self_eq_false, gt_iff_lt, ge_iff_le, Int.lt_irrefl, Int.le_refl, Nat.reduceDiv, bC_take hof, hof, embs_bC, a1, t1, d1, t2, d2, hPl, List.length_append, List.length_drop, List.append_assoc]
      have htj : ((laterL l k).take j).length = j := by rw [List.length_take]; omega
      refine ⟨⟨okEs_idT (ds := [ofV (l.drop (k + 1))[j].data]) (fun x hx => by rw [List.mem_singleton.1 hx]; exact hof), by omega, by unfold room; omega⟩, hR (j + 1) _ ?_ (by omega) (by omega)⟩
      simp -implicitDefEqProofs only [go_sem, reduceIte, Nat.reduceAdd, Nat.reduceSub, Nat.reduceMul, Nat.reduceLT, Nat.reduceLeDiff, Nat.reduceEqDiff, Nat.reduceBEq, Int.reduceLE, Int.reduceLT, Int.reduceToNat, Int.reduceMul, Int.reduceAdd, Int.reduceSub, Int.reduceNeg, Int.reduceEq, reduceCtorEq, Nat.reduceMod, wrap_i64_id (show -9223372036854775808 ≤ (j : Int) + 1 by omega) (by omega), Int.natCast_add, prF, wtB, zW, hPt, hPa, List.map_append, List.all_append]
      rw [hlj, idT_append, List.take_of_length_le (show (idT ((laterL l k).take j)).length ≤ j by rw [idT_length]; omega)]
      rfl
    · have hj' : j = l.length - (k + 1) := by have := of_decide_eq_false hh; omega
      subst hj'
      clear hR
      have htl : (laterL l k).take (l.length - (k + 1)) = laterL l k := List.take_of_length_le (by omega)
      have htl2 : List.take (l.length - (k + 1)) (idT (laterL l k)) = idT (laterL l k) := List.take_of_length_le (by rw [idT_length]; omega)
      have hwv : (witV l k).cells = .i .i64 k :: (bN (befV l k) ++ [.sl (bT l[k].data), .sl (idT (laterL l k))]) := by
        simp only [witV, Wit.cells, List.getElem?_eq_getElem hk, Option.map_some, Option.getD_some]
        rfl
      rw [hwv]
      simp -implicitDefEqProofs only [go_sem, reduceIte, Nat.reduceAdd, Nat.reduceSub, Nat.reduceMul, Nat.reduceLT, Nat.reduceLeDiff, Nat.reduceEqDiff, Nat.reduceBEq, Int.reduceLE, Int.reduceLT, Int.reduceToNat, Int.reduceMul, Int.reduceAdd, Int.reduceSub, Int.reduceNeg, Int.reduceEq, reduceCtorEq, Nat.reduceMod, Int.reduceBNe, Int.reduceBEq, Int.reduceGT, Int.reduceGE, Int.reduceNe, Int.cast_ofNat_Int, Int.natCast_zero, Int.natCast_one, bne_self_eq_false, gt_iff_lt, ge_iff_le, Int.lt_irrefl, Int.le_refl, Nat.reduceDiv, t2, hPl, List.length_append, htl, htl2, hls, embs_app', hPe, zW_len, zW_drop]
      refine ⟨fun a ha => ?_, by show 32 ≤ 32; omega⟩
      rcases List.mem_append.1 ha with h | h
      · exact hPC.one a h
      · simp only [List.mem_cons, List.not_mem_nil, or_false] at h
        rcases h with rfl | rfl <;> simp [AV.one, T.one]
  · obtain ⟨n, hn⟩ : ∃ n, k = n + 1 := ⟨k - 1, by omega⟩
    have e4 : ((0 : Int) < (k : Int)) = True := eq_true (by omega)
    have e6 : IntKind.i64.wrap ((k : Int) - 1) = (n : Int) := by rw [wrap_i64_id (by omega) (by omega)]; omega
    have h3n := lnOK_get hl (show n < l.length by omega)
    have hbf : befV l k = l[n].sum := by subst hn; exact befV_succ (by omega)
    have e7 : ((n : Int) < (l.length : Int)) = True := eq_true (by omega)
    have g33 := fun X => (idC_F h3n).at X 1
    have gset := fun a b v => (idC_F h3n).set1 a b v
    simp only [Nat.reduceAdd] at g33
    have hprc : prC l k = bF l[n].sum := by unfold prC; rw [if_neg (by omega), hbf]
    simp -implicitDefEqProofs only [go_sem, reduceIte, Nat.reduceAdd, Nat.reduceSub, Nat.reduceMul, Nat.reduceLT, Nat.reduceLeDiff, Nat.reduceEqDiff, Nat.reduceBEq, Int.reduceLE, Int.reduceLT, Int.reduceToNat, Int.reduceMul, Int.reduceAdd, Int.reduceSub, Int.reduceNeg, Int.reduceEq, reduceCtorEq, Nat.reduceMod, Int.reduceBNe, Int.reduceBEq, Int.reduceGT, Int.reduceGE, Int.reduceNe, Int.cast_ofNat_Int, Int.natCast_zero, Int.natCast_one, bne_self_eq_false, gt_iff_lt, ge_iff_le, Int.lt_irrefl, Int.le_refl, Nat.reduceDiv, e4, e5, e6, e7, td, e8, td', List.length_drop, lnT_get (show n < l.length by omega), bN_take h3n, bN_mapF, h3n]
    refine ⟨bF_one _, ⟨by omega, okEs_lnT hl⟩, ?_⟩
    refine loop_l (α := Nat) (prF l k l[k].data) (fun j => l.length - (k + 1) - j) (fun j => j ≤ l.length - (k + 1)) 0 (by simp -implicitDefEqProofs only [go_sem, reduceIte, Nat.reduceAdd, Nat.reduceSub, Nat.reduceMul, Nat.reduceLT, Nat.reduceLeDiff, Nat.reduceEqDiff, Nat.reduceBEq, Int.reduceLE, Int.reduceLT, Int.reduceToNat, Int.reduceMul, Int.reduceAdd, Int.reduceSub, Int.reduceNeg, Int.reduceEq, reduceCtorEq, Nat.reduceMod, prF, wtB, zW, hprc, laterL, idT, List.take_zero, List.map_nil, Nat.reduceDiv, List.length_drop, g33, gset, List.map_append, List.all_append]; rfl) (Nat.zero_le _) ?_
    intro j hj R hR
    have hPC := prC_ok hl k
    have hls : (laterL l k).length = l.length - (k + 1) := by simp [laterL]
    have t0 := fun X => hPC.tk X 0
    have t1 := fun X => hPC.tk X 1
    have t2 := fun X => hPC.tk X 2
    have d0 := fun X => hPC.dr X 0
    have d1 := fun X => hPC.dr X 1
    have d2 := fun X => hPC.dr X 2
    have a0 := fun X => hPC.at X 0
    have a1 := fun X => hPC.at X 1
    simp only [Nat.reduceAdd, List.drop_zero, List.take_zero, List.append_nil] at t0 t1 t2 d0 d1 d2 a0 a1
    have hPl := hPC.len
    have hPe := hPC.emb
    have hPt := hPC.to
    have hPa := hPC.all
    simp -implicitDefEqProofs only [go_sem, reduceIte, Nat.reduceAdd, Nat.reduceSub, Nat.reduceMul, Nat.reduceLT, Nat.reduceLeDiff, Nat.reduceEqDiff, Nat.reduceBEq, Int.reduceLE, Int.reduceLT, Int.reduceToNat, Int.reduceMul, Int.reduceAdd, Int.reduceSub, Int.reduceNeg, Int.reduceEq, reduceCtorEq, Nat.reduceMod, Int.reduceBNe, Int.reduceBEq, Int.reduceGT, Int.reduceGE, Int.reduceNe, Int.cast_ofNat_Int, Int.natCast_zero, Int.natCast_one, bne_self_eq_false, gt_iff_lt, ge_iff_le, Int.lt_irrefl, Int.le_refl, Nat.reduceDiv, prF, wtB, zW]
    refine wcond_mk (fun hh => ?_) (fun hh => ?_)
    · have hj' : j < l.length - (k + 1) := by have := of_decide_eq_true hh; omega
      have hjl : j < (l.drop (k + 1)).length := by rw [List.length_drop]; omega
      have hjx : (j : Int) < ((l.drop (k + 1)).length : Int) := by omega
      have hx3 : (l.drop (k + 1))[j].sum.length = 32 := lnOK_get (fun x hx => hl x (List.mem_of_mem_drop hx)) hjl
      have hxd : (l.drop (k + 1))[j].data.length ≤ 200 := by
        rw [List.getElem_drop]
        exact h200 _ _
      have hlj : (laterL l k).take (j + 1) = (laterL l k).take j ++ [ofV (l.drop (k + 1))[j].data] := by
        rw [take_snoc (show j < (laterL l k).length by omega)]
        simp [laterL]
      have hof := ofV_len (l.drop (k + 1))[j].data
      simp -implicitDefEqProofs only [go_sem, reduceIte, Nat.reduceAdd, Nat.reduceSub, Nat.reduceMul, Nat.reduceLT, Nat.reduceLeDiff, Nat.reduceEqDiff, Nat.reduceBEq, Int.reduceLE, Int.reduceLT, Int.reduceToNat, Int.reduceMul, Int.reduceAdd, Int.reduceSub, Int.reduceNeg, Int.reduceEq, reduceCtorEq, Nat.reduceMod, Int.reduceBNe, Int.reduceBEq, Int.reduceGT, Int.reduceGE, Int.reduceNe, Int.cast_ofNat_Int, Int.natCast_zero, Int.natCast_one, bne_self_eq_false, gt_iff_lt, ge_iff_le, Int.lt_irrefl, Int.le_refl, Nat.reduceDiv, lnT_get hjl, List.length_drop, eq_true hjx, hx3, bN_take hx3, bN_mapF]
      refine ⟨bF_one _, ?_⟩
      first | refine call_k (s_Sum' (l.drop (k + 1))[j].data (by omega)) ?_ | refine call_d (s_Sum' (l.drop (k + 1))[j].data (by omega)) ?_
      simp -implicitDefEqProofs only [go_sem, reduceIte, Nat.reduceAdd, Nat.reduceSub, Nat.reduceMul, Nat.reduceLT, Nat.reduceLeDiff, Nat.reduceEqDiff, Nat.reduceBEq, Int.reduceLE, Int.reduceLT, Int.reduceToNat, Int.reduceMul, Int.reduceAdd, Int.reduceSub, Int.reduceNeg, Int.reduceEq, reduceCtorEq, Nat.reduceMod, Int.reduceBNe, Int.reduceBEq, Int.reduceGT, Int.reduceGE, Int.reduceNe, Int.cast_ofNat_Int, Int.natCast_zero, Int.natCast_one, bne_self_eq_false, gt_iff_lt, ge_iff_le, Int.lt_irrefl, Int.le_refl, Nat.reduceDiv, bN_map, hof, bC_take hof]
      refine ⟨bC_one _, ?_⟩
      simp -implicitDefEqProofs only [go_sem, reduceIte, Nat.reduceAdd, Nat.reduceSub, Nat.reduceMul, Nat.reduceLT, Nat.reduceLeDiff, Nat.reduceEqDiff, Nat.reduceBEq, Int.reduceLE, Int.reduceLT, Int.reduceToNat, Int.reduceMul, Int.reduceAdd, Int.reduceSub, Int.reduceNeg, Int.reduceEq, reduceCtorEq, Nat.reduceMod, Int.reduceBNe, Int.reduceBEq, Int.reduceGT, Int.reduceGE, Int.reduceNe, Int.cast_ofNat_Int, Int.natCast_zero, Int.natCast_one, bne_self_eq_false, gt_iff_lt, ge_iff_le, Int.lt_irrefl, Int.le_refl, Nat.reduceDiv, bC_take hof, hof, embs_bC, a1, t1, d1, t2, d2, hPl, List.length_append, List.length_drop, List.append_assoc]
      have htj : ((laterL l k).take j).length = j := by rw [List.length_take]; omega
      refine ⟨⟨okEs_idT (ds := [ofV (l.drop (k + 1))[j].data]) (fun x hx => by rw [List.mem_singleton.1 hx]; exact hof), by omega, by unfold room; omega⟩, hR (j + 1) _ ?_ (by omega) (by omega)⟩
      simp -implicitDefEqProofs only [go_sem, reduceIte, Nat.reduceAdd, Nat.reduceSub, Nat.reduceMul, Nat.reduceLT, Nat.reduceLeDiff, Nat.reduceEqDiff, Nat.reduceBEq, Int.reduceLE, Int.reduceLT, Int.reduceToNat, Int.reduceMul, Int.reduceAdd, Int.reduceSub, Int.reduceNeg, Int.reduceEq, reduceCtorEq, Nat.reduceMod, wrap_i64_id (show -9223372036854775808 ≤ (j : Int) + 1 by omega) (by omega), Int.natCast_add, prF, wtB, zW, hPt, hPa, List.map_append, List.all_append, g33, gset]
      rw [hlj, idT_append, List.take_of_length_le (show (idT ((laterL l k).take j)).length ≤ j by rw [idT_length]; omega)]
      rfl
    · have hj' : j = l.length - (k + 1) := by have := of_decide_eq_false hh; omega
      subst hj'
      clear hR
      have htl : (laterL l k).take (l.length - (k + 1)) = laterL l k := List.take_of_length_le (by omega)
      have htl2 : List.take (l.length - (k + 1)) (idT (laterL l k)) = idT (laterL l k) := List.take_of_length_le (by rw [idT_length]; omega)
      have hwv : (witV l k).cells = .i .i64 k :: (bN (befV l k) ++ [.sl (bT l[k].data), .sl (idT (laterL l k))]) := by
        simp only [witV, Wit.cells, List.getElem?_eq_getElem hk, Option.map_some, Option.getD_some]
        rfl
      rw [hwv]
      simp -implicitDefEqProofs only [go_sem, reduceIte, Nat.reduceAdd, Nat.reduceSub, Nat.reduceMul, Nat.reduceLT, Nat.reduceLeDiff, Nat.reduceEqDiff, Nat.reduceBEq, Int.reduceLE, Int.reduceLT, Int.reduceToNat, Int.reduceMul, Int.reduceAdd, Int.reduceSub, Int.reduceNeg, Int.reduceEq, reduceCtorEq, Nat.reduceMod, Int.reduceBNe, Int.reduceBEq, Int.reduceGT, Int.reduceGE, Int.reduceNe, Int.cast_ofNat_Int, Int.natCast_zero, Int.natCast_one, bne_self_eq_false, gt_iff_lt, ge_iff_le, Int.lt_irrefl, Int.le_refl, Nat.reduceDiv, t2, hPl, List.length_append, htl, htl2, hls, embs_app', hPe, zW_len, zW_drop]
      refine ⟨fun a ha => ?_, by show 32 ≤ 32; omega⟩
      rcases List.mem_append.1 ha with h | h
      · exact hPC.one a h
      · simp only [List.mem_cons, List.not_mem_nil, or_false] at h
        rcases h with rfl | rfl <;> simp [AV.one, T.one]
theorem arg_u8 {d : Nat} {x : T} (h : ArgFits Tryd.prog (d + 1) 5 x) : ∃ b : BitVec 8, x = .i .u8 b.toNat := by
  obtain ⟨b, e⟩ := fits_u8' ti5 (arg_int ti5 h)
  simp only [List.cons.injEq, and_true] at e
  exact ⟨b, e⟩
theorem arg_bss {d : Nat} {x : T} (h : ArgFits Tryd.prog (d + 3) 54 x) : ∃ l : List (List (BitVec 8)), x = .sl (catE l) ∧ l.length ≤ 140737488355328 := by
  obtain ⟨es, e, hr, hf⟩ := fits_sl ti54 (arg_sl ti54 h)
  simp only [List.cons.injEq, and_true] at e
  obtain ⟨l, rfl, hp⟩ := list_form2 (f := fun b : List (BitVec 8) => [T.sl (bT b)]) (p := fun _ => True) fun y hy => by
    obtain ⟨bs, e, _⟩ := fits_bs ti22 ti5 (hf y hy)
    exact ⟨bs, e, trivial⟩
  exact ⟨l, e, by simpa [room] using hr⟩
end Go.Proofs.YtgkmhmhbepfiaaaDoor.Pm
