/- Texts of this proof in one file: PmJe, PmJf, PmJg, PmJh, PmHy. No law of Go's is stated here. -/
import Derived.Test.YtgkmhmhbepfiaaaDoorPmMf
import Derived.Test.YtgkmhmhbepfiaaaDoorPmMe
set_option linter.all false
set_option maxRecDepth 100000
set_option maxHeartbeats 2000000
namespace Go.Proofs.YtgkmhmhbepfiaaaDoor.Pm
open Go Go.RowKit
theorem lnT_append (a b : List Lnk) : lnT (a ++ b) = lnT a ++ lnT b := by simp [lnT]
theorem E_len {x : Lnk} (h : x.sum.length = 32) : x.E.length = 33 := by
  show (bN x.sum).length + 1 = 33
  rw [bN_len', h]
theorem bN_oneT (ws : List (BitVec 8)) : ∀ x ∈ bN ws, x.one := by
  intro v hv
  simp only [bN, List.mem_map] at hv
  obtain ⟨b, _, rfl⟩ := hv
  simp [T.one]
theorem E_one (x : Lnk) : ∀ y ∈ x.E, y.one := by
  intro y hy
  rcases List.mem_cons.1 hy with rfl | hy
  · simp [T.one]
  · exact bN_oneT _ y hy
theorem okEs_lnT {l : List Lnk} (h : lnOK l) : okEs 33 (lnT l) := by
  intro e he
  simp only [lnT, List.mem_map] at he
  obtain ⟨x, hx, rfl⟩ := he
  exact ⟨E_len (h x hx), E_one x⟩
theorem s_ref44_Twin (l : List Lnk) (hl : lnOK l) (h40 : l.length ≤ 50) (hd : ∀ x ∈ l, x.data.length ≤ 300) : Spec Tryd.prog 33 [.sl (lnT l)] [.row 0 33 (lnT l) true] (.row 0 0 0 l.length) := by
  refine spec_ko (hold mixed) b_ref44_Twin [.row 0 33 (lnT l) true] [.row 0 0 0 l.length] ?_
  simp -implicitDefEqProofs only [go_sem, reduceIte, Nat.reduceAdd, Nat.reduceSub, Nat.reduceMul, Nat.reduceLT, Nat.reduceLeDiff, Nat.reduceEqDiff, Nat.reduceBEq, Int.reduceLE, Int.reduceLT, Int.reduceToNat, Int.reduceMul, Int.reduceAdd, Int.reduceSub, Int.reduceNeg, Int.reduceEq, reduceCtorEq, Nat.reduceMod, Int.reduceBNe, Int.reduceBEq, Int.reduceGT, Int.reduceGE, Int.reduceNe, Int.cast_ofNat_Int, Int.natCast_zero, Int.natCast_one, bne_self_eq_false, gt_iff_lt, ge_iff_le, Int.lt_irrefl, Int.le_refl]
  refine loop_l (α := Nat) (fun k => ⟨tmL [(0, .t (.sl (lnT l)) false), (3, .row 0 k 0 k), (4, .t (.i .i64 k) true)], [.row k 33 (lnT (l.take k)) true]⟩) (fun k => l.length - k) (fun k => k ≤ l.length) 0 (by simp -implicitDefEqProofs only [go_sem, reduceIte, Nat.reduceAdd, Nat.reduceSub, Nat.reduceMul, Nat.reduceLT, Nat.reduceLeDiff, Nat.reduceEqDiff, Nat.reduceBEq, Int.reduceLE, Int.reduceLT, Int.reduceToNat, Int.reduceMul, Int.reduceAdd, Int.reduceSub, Int.reduceNeg, Int.reduceEq, reduceCtorEq, Nat.reduceMod]; rfl) (Nat.zero_le _) ?_
  intro k hk R hR
  simp -implicitDefEqProofs only [go_sem, reduceIte, Nat.reduceAdd, Nat.reduceSub, Nat.reduceMul, Nat.reduceLT, Nat.reduceLeDiff, Nat.reduceEqDiff, Nat.reduceBEq, Int.reduceLE, Int.reduceLT, Int.reduceToNat, Int.reduceMul, Int.reduceAdd, Int.reduceSub, Int.reduceNeg, Int.reduceEq, reduceCtorEq, Nat.reduceMod, Int.reduceBNe, Int.reduceBEq, Int.reduceGT, Int.reduceGE, Int.reduceNe, Int.cast_ofNat_Int, Int.natCast_zero, Int.natCast_one, bne_self_eq_false, gt_iff_lt, ge_iff_le, Int.lt_irrefl, Int.le_refl]
  refine wcond_mk (fun hh => ?_) (fun hh => ?_)
  · have hk' : k < l.length := by have := of_decide_eq_true hh; omega
    have h32 := lnOK_get hl hk'
    have hdk := hd _ (List.getElem_mem hk')
    have tdk : List.take l[k].data.length (bT l[k].data) = bT l[k].data := List.take_of_length_le (by rw [bT_length]; exact Nat.le_refl _)
    simp -implicitDefEqProofs only [go_sem, reduceIte, Nat.reduceAdd, Nat.reduceSub, Nat.reduceMul, Nat.reduceLT, Nat.reduceLeDiff, Nat.reduceEqDiff, Nat.reduceBEq, Int.reduceLE, Int.reduceLT, Int.reduceToNat, Int.reduceMul, Int.reduceAdd, Int.reduceSub, Int.reduceNeg, Int.reduceEq, reduceCtorEq, Nat.reduceMod, Int.reduceBNe, Int.reduceBEq, Int.reduceGT, Int.reduceGE, Int.reduceNe, Int.cast_ofNat_Int, Int.natCast_zero, Int.natCast_one, bne_self_eq_false, gt_iff_lt, ge_iff_le, Int.lt_irrefl, Int.le_refl, lnT_get hk', bN_take h32, h32, bN_mapF, embs_bF, tdk]
    refine ⟨⟨okEs_bT _, by unfold room; omega⟩, ⟨okEs_lnT (l := [l[k]]) (fun x hx => by rw [List.mem_singleton.1 hx]; exact h32), by rw [List.length_take]; omega, by unfold room; omega⟩, hR (k + 1) _ ?_ (by omega) (by omega)⟩
    simp -implicitDefEqProofs only [go_sem, reduceIte, Nat.reduceAdd, Nat.reduceSub, Nat.reduceMul, Nat.reduceLT, Nat.reduceLeDiff, Nat.reduceEqDiff, Nat.reduceBEq, Int.reduceLE, Int.reduceLT, Int.reduceToNat, Int.reduceMul, Int.reduceAdd, Int.reduceSub, Int.reduceNeg, Int.reduceEq, reduceCtorEq, Nat.reduceMod, wrap_i64_id (show -9223372036854775808 ≤ (k : Int) + 1 by omega) (by omega), Int.natCast_add]
    rw [List.take_of_length_le (show (lnT (l.take k)).length ≤ k by rw [lnT_length, List.length_take]; omega), take_snoc hk', lnT_append]
    rfl
  · have hk' : k = l.length := by have := of_decide_eq_false hh; omega
    subst hk'
    simp -implicitDefEqProofs only [go_sem, reduceIte, Nat.reduceAdd, Nat.reduceSub, Nat.reduceMul, Nat.reduceLT, Nat.reduceLeDiff, Nat.reduceEqDiff, Nat.reduceBEq, Int.reduceLE, Int.reduceLT, Int.reduceToNat, Int.reduceMul, Int.reduceAdd, Int.reduceSub, Int.reduceNeg, Int.reduceEq, reduceCtorEq, Nat.reduceMod, Int.reduceBNe, Int.reduceBEq, Int.reduceGT, Int.reduceGE, Int.reduceNe, Int.cast_ofNat_Int, Int.natCast_zero, Int.natCast_one, bne_self_eq_false, gt_iff_lt, ge_iff_le, Int.lt_irrefl, Int.le_refl]
    refine ends_mk [0] ?_ ?_ <;> simp -implicitDefEqProofs only [go_sem, reduceIte, Nat.reduceAdd, Nat.reduceSub, Nat.reduceMul, Nat.reduceLT, Nat.reduceLeDiff, Nat.reduceEqDiff, Nat.reduceBEq, Int.reduceLE, Int.reduceLT, Int.reduceToNat, Int.reduceMul, Int.reduceAdd, Int.reduceSub, Int.reduceNeg, Int.reduceEq, reduceCtorEq, Nat.reduceMod, Int.reduceBNe, Int.reduceBEq, Int.reduceGT, Int.reduceGE, Int.reduceNe, Int.cast_ofNat_Int, Int.natCast_zero, Int.natCast_one, bne_self_eq_false, gt_iff_lt, ge_iff_le, Int.lt_irrefl, Int.le_refl]
    exact List.take_of_length_le (by rw [lnT_length]; exact Nat.le_refl _)
theorem s_chain_twin (l : List Lnk) (hl : lnOK l) (h40 : l.length ≤ 50) (hd : ∀ x ∈ l, x.data.length ≤ 300) : Spec Tryd.prog 66 [.sl (lnT l)] [.row 0 33 (lnT l) true] (.row 0 0 0 l.length) := by
  refine spec_ko (hold mixed) b_chain_twin [.row 0 33 (lnT l) true] [.row 0 0 0 l.length] ?_
  have e1 : IntKind.i64.wrap ((l.length : Int) + 1) = ((l.length + 1 : Nat) : Int) := by rw [wrap_i64_id (by omega) (by omega)]; omega
  simp -implicitDefEqProofs only [go_sem, reduceIte, Nat.reduceAdd, Nat.reduceSub, Nat.reduceMul, Nat.reduceLT, Nat.reduceLeDiff, Nat.reduceEqDiff, Nat.reduceBEq, Int.reduceLE, Int.reduceLT, Int.reduceToNat, Int.reduceMul, Int.reduceAdd, Int.reduceSub, Int.reduceNeg, Int.reduceEq, reduceCtorEq, Nat.reduceMod, Int.reduceBNe, Int.reduceBEq, Int.reduceGT, Int.reduceGE, Int.reduceNe, Int.cast_ofNat_Int, Int.natCast_zero, Int.natCast_one, bne_self_eq_false, gt_iff_lt, ge_iff_le, Int.lt_irrefl, Int.le_refl, e1]
  refine ⟨⟨by unfold room; omega, by unfold room; omega⟩, ?_⟩
  refine loop_l (α := Nat) (fun k => ⟨tmL [(3, .row 0 k 0 k), (10, .t (.sl (lnT l)) false), (11, .t (.i .i64 l.length) true), (12, .t (.i .i64 k) true)], [.row k 33 (lnT (l.take k)) true]⟩) (fun k => l.length - k) (fun k => k ≤ l.length) 0 (by simp -implicitDefEqProofs only [go_sem, reduceIte, Nat.reduceAdd, Nat.reduceSub, Nat.reduceMul, Nat.reduceLT, Nat.reduceLeDiff, Nat.reduceEqDiff, Nat.reduceBEq, Int.reduceLE, Int.reduceLT, Int.reduceToNat, Int.reduceMul, Int.reduceAdd, Int.reduceSub, Int.reduceNeg, Int.reduceEq, reduceCtorEq, Nat.reduceMod]; rfl) (Nat.zero_le _) ?_
  intro k hk R hR
  simp -implicitDefEqProofs only [go_sem, reduceIte, Nat.reduceAdd, Nat.reduceSub, Nat.reduceMul, Nat.reduceLT, Nat.reduceLeDiff, Nat.reduceEqDiff, Nat.reduceBEq, Int.reduceLE, Int.reduceLT, Int.reduceToNat, Int.reduceMul, Int.reduceAdd, Int.reduceSub, Int.reduceNeg, Int.reduceEq, reduceCtorEq, Nat.reduceMod, Int.reduceBNe, Int.reduceBEq, Int.reduceGT, Int.reduceGE, Int.reduceNe, Int.cast_ofNat_Int, Int.natCast_zero, Int.natCast_one, bne_self_eq_false, gt_iff_lt, ge_iff_le, Int.lt_irrefl, Int.le_refl]
  refine wcond_mk (fun hh => ?_) (fun hh => ?_)
  · have hk' : k < l.length := by have := of_decide_eq_true hh; omega
    have h32 := lnOK_get hl hk'
    have hdk := hd _ (List.getElem_mem hk')
    simp -implicitDefEqProofs only [go_sem, reduceIte, Nat.reduceAdd, Nat.reduceSub, Nat.reduceMul, Nat.reduceLT, Nat.reduceLeDiff, Nat.reduceEqDiff, Nat.reduceBEq, Int.reduceLE, Int.reduceLT, Int.reduceToNat, Int.reduceMul, Int.reduceAdd, Int.reduceSub, Int.reduceNeg, Int.reduceEq, reduceCtorEq, Nat.reduceMod, Int.reduceBNe, Int.reduceBEq, Int.reduceGT, Int.reduceGE, Int.reduceNe, Int.cast_ofNat_Int, Int.natCast_zero, Int.natCast_one, bne_self_eq_false, gt_iff_lt, ge_iff_le, Int.lt_irrefl, Int.le_refl, lnT_get hk', bN_take h32, h32, bN_mapF, embs_bF]
    refine ⟨bF_one _, ?_⟩
    first | refine call_k (s_slices_Clone l[k].data (by omega)) ?_ | refine call_d (s_slices_Clone l[k].data (by omega)) ?_
    simp -implicitDefEqProofs only [go_sem, reduceIte, Nat.reduceAdd, Nat.reduceSub, Nat.reduceMul, Nat.reduceLT, Nat.reduceLeDiff, Nat.reduceEqDiff, Nat.reduceBEq, Int.reduceLE, Int.reduceLT, Int.reduceToNat, Int.reduceMul, Int.reduceAdd, Int.reduceSub, Int.reduceNeg, Int.reduceEq, reduceCtorEq, Nat.reduceMod, Int.reduceBNe, Int.reduceBEq, Int.reduceGT, Int.reduceGE, Int.reduceNe, Int.cast_ofNat_Int, Int.natCast_zero, Int.natCast_one, bne_self_eq_false, gt_iff_lt, ge_iff_le, Int.lt_irrefl, Int.le_refl, bF_take h32, h32, embs_bF]
    refine ⟨⟨okEs_lnT (l := [l[k]]) (fun x hx => by rw [List.mem_singleton.1 hx]; exact h32), by rw [List.length_take]; omega, by unfold room; omega⟩, hR (k + 1) _ ?_ (by omega) (by omega)⟩
    simp -implicitDefEqProofs only [go_sem, reduceIte, Nat.reduceAdd, Nat.reduceSub, Nat.reduceMul, Nat.reduceLT, Nat.reduceLeDiff, Nat.reduceEqDiff, Nat.reduceBEq, Int.reduceLE, Int.reduceLT, Int.reduceToNat, Int.reduceMul, Int.reduceAdd, Int.reduceSub, Int.reduceNeg, Int.reduceEq, reduceCtorEq, Nat.reduceMod, wrap_i64_id (show -9223372036854775808 ≤ (k : Int) + 1 by omega) (by omega), Int.natCast_add]
    rw [List.take_of_length_le (show (lnT (l.take k)).length ≤ k by rw [lnT_length, List.length_take]; omega), take_snoc hk', lnT_append]
    rfl
  · have hk' : k = l.length := by have := of_decide_eq_false hh; omega
    subst hk'
    simp -implicitDefEqProofs only [go_sem, reduceIte, Nat.reduceAdd, Nat.reduceSub, Nat.reduceMul, Nat.reduceLT, Nat.reduceLeDiff, Nat.reduceEqDiff, Nat.reduceBEq, Int.reduceLE, Int.reduceLT, Int.reduceToNat, Int.reduceMul, Int.reduceAdd, Int.reduceSub, Int.reduceNeg, Int.reduceEq, reduceCtorEq, Nat.reduceMod, Int.reduceBNe, Int.reduceBEq, Int.reduceGT, Int.reduceGE, Int.reduceNe, Int.cast_ofNat_Int, Int.natCast_zero, Int.natCast_one, bne_self_eq_false, gt_iff_lt, ge_iff_le, Int.lt_irrefl, Int.le_refl]
    refine ends_mk [0] ?_ ?_ <;> simp -implicitDefEqProofs only [go_sem, reduceIte, Nat.reduceAdd, Nat.reduceSub, Nat.reduceMul, Nat.reduceLT, Nat.reduceLeDiff, Nat.reduceEqDiff, Nat.reduceBEq, Int.reduceLE, Int.reduceLT, Int.reduceToNat, Int.reduceMul, Int.reduceAdd, Int.reduceSub, Int.reduceNeg, Int.reduceEq, reduceCtorEq, Nat.reduceMod, Int.reduceBNe, Int.reduceBEq, Int.reduceGT, Int.reduceGE, Int.reduceNe, Int.cast_ofNat_Int, Int.natCast_zero, Int.natCast_one, bne_self_eq_false, gt_iff_lt, ge_iff_le, Int.lt_irrefl, Int.le_refl]
    exact List.take_of_length_le (by rw [lnT_length]; exact Nat.le_refl _)
def mkL (all : List (List (BitVec 8))) : Nat → List Lnk
  | 0 => []
  | k + 1 => mkL all k ++ [⟨(all[k]?).getD [], stepV (befV (mkL all k) k) k (ofV ((all[k]?).getD []))⟩]
theorem mkL_len (all : List (List (BitVec 8))) : ∀ k, (mkL all k).length = k
  | 0 => rfl
  | k + 1 => by simp only [mkL, List.length_append, mkL_len all k]; rfl
theorem mkL_OK (all : List (List (BitVec 8))) : ∀ k, lnOK (mkL all k)
  | 0 => fun x hx => by simp [mkL] at hx
  | k + 1 => fun x hx => by
    rcases List.mem_append.1 hx with h | h
    · exact mkL_OK all k x h
    · rw [List.mem_singleton.1 h]
      exact stepV_len _ _ _
theorem mkL_step {all : List (List (BitVec 8))} {k : Nat} (hk : k < all.length) : mkL all (k + 1) = mkL all k ++ [⟨all[k], stepV (befV (mkL all k) k) k (ofV all[k])⟩] := by
  simp only [mkL, List.getElem?_eq_getElem hk, Option.getD_some]
theorem befV_mk {all : List (List (BitVec 8))} {k : Nat} (hk : k < all.length) : befV (mkL all (k + 1)) (k + 1) = stepV (befV (mkL all k) k) k (ofV all[k]) := by
  rw [befV_succ (by rw [mkL_len]; omega)]
  simp only [mkL_step hk]
  rw [List.getElem_append_right (by rw [mkL_len]; exact Nat.le_refl _)]
  simp [mkL_len]
def smallL (all : List (List (BitVec 8))) : Prop := ∀ k (hk : k < all.length), all[k].length ≤ 200
theorem s_chain_Make (all : List (List (BitVec 8))) (h40 : all.length ≤ 40) (hs : smallL all) : Spec Tryd.prog 29 [.sl (catE all)] [.row 0 33 (lnT (mkL all all.length)) true] (.tup [.row 0 0 0 all.length, .t (.i .i64 0) true]) := by
  refine spec_ko (hold mixed) b_chain_Make [.row 0 33 (lnT (mkL all all.length)) true] [.row 0 0 0 all.length, .t (.i .i64 0) true] ?_
  have h1 : ((40 : Int) < (all.length : Int)) = False := eq_false (by omega)
  simp -implicitDefEqProofs only [go_sem, reduceIte, Nat.reduceAdd, Nat.reduceSub, Nat.reduceMul, Nat.reduceLT, Nat.reduceLeDiff, Nat.reduceEqDiff, Nat.reduceBEq, Int.reduceLE, Int.reduceLT, Int.reduceToNat, Int.reduceMul, Int.reduceAdd, Int.reduceSub, Int.reduceNeg, Int.reduceEq, reduceCtorEq, Nat.reduceMod, Int.reduceBNe, Int.reduceBEq, Int.reduceGT, Int.reduceGE, Int.reduceNe, Int.cast_ofNat_Int, Int.natCast_zero, Int.natCast_one, bne_self_eq_false, gt_iff_lt, ge_iff_le, Int.lt_irrefl, Int.le_refl, catE_length, h1]
  refine loop_l (α := Nat) (fun k => ⟨tmL [(4, .row 1 k 0 k), (5, .ptr 0 0), (13, .t (.sl (catE all)) false), (14, .t (.i .i64 all.length) true), (15, .t (.i .i64 k) true)], [.var (bC (befV (mkL all k) k)), .row k 33 (lnT (mkL all k)) true]⟩) (fun k => all.length - k) (fun k => k ≤ all.length) 0 (by simp -implicitDefEqProofs only [go_sem, reduceIte, Nat.reduceAdd, Nat.reduceSub, Nat.reduceMul, Nat.reduceLT, Nat.reduceLeDiff, Nat.reduceEqDiff, Nat.reduceBEq, Int.reduceLE, Int.reduceLT, Int.reduceToNat, Int.reduceMul, Int.reduceAdd, Int.reduceSub, Int.reduceNeg, Int.reduceEq, reduceCtorEq, Nat.reduceMod, befV_0]; rfl) (Nat.zero_le _) ?_
  intro k hk R hR
  have hml := mkL_len all k
  simp -implicitDefEqProofs only [go_sem, reduceIte, Nat.reduceAdd, Nat.reduceSub, Nat.reduceMul, Nat.reduceLT, Nat.reduceLeDiff, Nat.reduceEqDiff, Nat.reduceBEq, Int.reduceLE, Int.reduceLT, Int.reduceToNat, Int.reduceMul, Int.reduceAdd, Int.reduceSub, Int.reduceNeg, Int.reduceEq, reduceCtorEq, Nat.reduceMod, Int.reduceBNe, Int.reduceBEq, Int.reduceGT, Int.reduceGE, Int.reduceNe, Int.cast_ofNat_Int, Int.natCast_zero, Int.natCast_one, bne_self_eq_false, gt_iff_lt, ge_iff_le, Int.lt_irrefl, Int.le_refl]
  refine wcond_mk (fun hh => ?_) (fun hh => ?_)
  · have hk' : k < all.length := by have := of_decide_eq_true hh; omega
    have hd := hs k hk'
    have hd' : ((200 : Int) < (all[k].length : Int)) = False := eq_false (by omega)
    have hb32 := befV_len (mkL_OK all k) k
    have hst := stepV_len (befV (mkL all k) k) k (ofV all[k])
    have hms := mkL_step hk'
    have hbm := befV_mk hk'
    simp -implicitDefEqProofs only [go_sem, reduceIte, Nat.reduceAdd, Nat.reduceSub, Nat.reduceMul, Nat.reduceLT, Nat.reduceLeDiff, Nat.reduceEqDiff, Nat.reduceBEq, Int.reduceLE, Int.reduceLT, Int.reduceToNat, Int.reduceMul, Int.reduceAdd, Int.reduceSub, Int.reduceNeg, Int.reduceEq, reduceCtorEq, Nat.reduceMod, Int.reduceBNe, Int.reduceBEq, Int.reduceGT, Int.reduceGE, Int.reduceNe, Int.cast_ofNat_Int, Int.natCast_zero, Int.natCast_one, bne_self_eq_false, gt_iff_lt, ge_iff_le, Int.lt_irrefl, Int.le_refl, catE_get hk', catE_length, hd', hb32, bC_take hb32]
    first | refine call_k (s_chain_next (befV (mkL all k) k) k all[k] hb32 (by omega) (by omega)) ?_ | refine call_d (s_chain_next (befV (mkL all k) k) k all[k] hb32 (by omega) (by omega)) ?_
    generalize stepV (befV (mkL all k) k) k (ofV all[k]) = st at *
    simp -implicitDefEqProofs only [go_sem, reduceIte, Nat.reduceAdd, Nat.reduceSub, Nat.reduceMul, Nat.reduceLT, Nat.reduceLeDiff, Nat.reduceEqDiff, Nat.reduceBEq, Int.reduceLE, Int.reduceLT, Int.reduceToNat, Int.reduceMul, Int.reduceAdd, Int.reduceSub, Int.reduceNeg, Int.reduceEq, reduceCtorEq, Nat.reduceMod, Int.reduceBNe, Int.reduceBEq, Int.reduceGT, Int.reduceGE, Int.reduceNe, Int.cast_ofNat_Int, Int.natCast_zero, Int.natCast_one, bne_self_eq_false, gt_iff_lt, ge_iff_le, Int.lt_irrefl, Int.le_refl, bN_map, hst, bC_take hst, catE_length]
    refine ⟨bC_one _, ?_⟩
    first | refine call_k (s_slices_Clone all[k] (by omega)) ?_ | refine call_d (s_slices_Clone all[k] (by omega)) ?_
    simp -implicitDefEqProofs only [go_sem, reduceIte, Nat.reduceAdd, Nat.reduceSub, Nat.reduceMul, Nat.reduceLT, Nat.reduceLeDiff, Nat.reduceEqDiff, Nat.reduceBEq, Int.reduceLE, Int.reduceLT, Int.reduceToNat, Int.reduceMul, Int.reduceAdd, Int.reduceSub, Int.reduceNeg, Int.reduceEq, reduceCtorEq, Nat.reduceMod, Int.reduceBNe, Int.reduceBEq, Int.reduceGT, Int.reduceGE, Int.reduceNe, Int.cast_ofNat_Int, Int.natCast_zero, Int.natCast_one, bne_self_eq_false, gt_iff_lt, ge_iff_le, Int.lt_irrefl, Int.le_refl, bC_take hst, hst, embs_bC, hb32, bC_drop hb32]
    refine ⟨⟨okEs_lnT (l := [⟨all[k], st⟩]) (fun x hx => by rw [List.mem_singleton.1 hx]; exact hst), by omega, by unfold room; omega⟩, bC_one _, hR (k + 1) _ ?_ (by omega) (by omega)⟩
    simp -implicitDefEqProofs only [go_sem, reduceIte, Nat.reduceAdd, Nat.reduceSub, Nat.reduceMul, Nat.reduceLT, Nat.reduceLeDiff, Nat.reduceEqDiff, Nat.reduceBEq, Int.reduceLE, Int.reduceLT, Int.reduceToNat, Int.reduceMul, Int.reduceAdd, Int.reduceSub, Int.reduceNeg, Int.reduceEq, reduceCtorEq, Nat.reduceMod, wrap_i64_id (show -9223372036854775808 ≤ (k : Int) + 1 by omega) (by omega), Int.natCast_add, hbm]
    rw [List.take_of_length_le (show (lnT (mkL all k)).length ≤ k by rw [lnT_length]; omega), hms, lnT_append]
    rfl
  · have hk' : k = all.length := by have := of_decide_eq_false hh; omega
    subst hk'
    simp -implicitDefEqProofs only [go_sem, reduceIte, Nat.reduceAdd, Nat.reduceSub, Nat.reduceMul, Nat.reduceLT, Nat.reduceLeDiff, Nat.reduceEqDiff, Nat.reduceBEq, Int.reduceLE, Int.reduceLT, Int.reduceToNat, Int.reduceMul, Int.reduceAdd, Int.reduceSub, Int.reduceNeg, Int.reduceEq, reduceCtorEq, Nat.reduceMod, Int.reduceBNe, Int.reduceBEq, Int.reduceGT, Int.reduceGE, Int.reduceNe, Int.cast_ofNat_Int, Int.natCast_zero, Int.natCast_one, bne_self_eq_false, gt_iff_lt, ge_iff_le, Int.lt_irrefl, Int.le_refl]
    refine ends_mk [1] ?_ ?_ <;> simp -implicitDefEqProofs only [go_sem, reduceIte, Nat.reduceAdd, Nat.reduceSub, Nat.reduceMul, Nat.reduceLT, Nat.reduceLeDiff, Nat.reduceEqDiff, Nat.reduceBEq, Int.reduceLE, Int.reduceLT, Int.reduceToNat, Int.reduceMul, Int.reduceAdd, Int.reduceSub, Int.reduceNeg, Int.reduceEq, reduceCtorEq, Nat.reduceMod, Int.reduceBNe, Int.reduceBEq, Int.reduceGT, Int.reduceGE, Int.reduceNe, Int.cast_ofNat_Int, Int.natCast_zero, Int.natCast_one, bne_self_eq_false, gt_iff_lt, ge_iff_le, Int.lt_irrefl, Int.le_refl]
    exact List.take_of_length_le (by rw [lnT_length]; exact Nat.le_refl _)
def makeE (all : List (List (BitVec 8))) : Int := if 40 < all.length then 4 else if all.any (fun x => decide (200 < x.length)) = true then 8 else 0
def makeV (all : List (List (BitVec 8))) : List Lnk := if makeE all = 0 then mkL all all.length else []
theorem makeE_0 {all : List (List (BitVec 8))} (h : makeE all = 0) : all.length ≤ 40 ∧ smallL all := by
  unfold makeE at h
  split at h
  · cases h
  · split at h
    · cases h
    · rename_i h1 h2
      refine ⟨by omega, fun j hj => ?_⟩
      rcases Nat.lt_or_ge 200 all[j].length with hb | hb
      · exact absurd (List.any_eq_true.2 ⟨all[j], List.getElem_mem hj, decide_eq_true hb⟩) h2
      · exact hb
theorem s_chain_MakeN (all : List (List (BitVec 8))) (he : makeE all ≠ 0) : Spec Tryd.prog 29 [.sl (catE all)] [] (.tup [.t (.sl []) true, .t (.i .i64 (makeE all)) true]) := by
  refine spec_k (hold mixed) b_chain_Make [(.sl [], true), (.i .i64 (makeE all), true)] ?_
  by_cases h40 : 40 < all.length
  · have h1 : ((40 : Int) < (all.length : Int)) = True := eq_true (by omega)
    rw [show makeE all = 4 from if_pos h40]
    simp -implicitDefEqProofs only [go_sem, reduceIte, Nat.reduceAdd, Nat.reduceSub, Nat.reduceMul, Nat.reduceLT, Nat.reduceLeDiff, Nat.reduceEqDiff, Nat.reduceBEq, Int.reduceLE, Int.reduceLT, Int.reduceToNat, Int.reduceMul, Int.reduceAdd, Int.reduceSub, Int.reduceNeg, Int.reduceEq, reduceCtorEq, Nat.reduceMod, Int.reduceBNe, Int.reduceBEq, Int.reduceGT, Int.reduceGE, Int.reduceNe, Int.cast_ofNat_Int, Int.natCast_zero, Int.natCast_one, bne_self_eq_false, gt_iff_lt, ge_iff_le, Int.lt_irrefl, Int.le_refl, catE_length, h1]
  · have h1 : ((40 : Int) < (all.length : Int)) = False := eq_false (by omega)
    have h8 : all.any (fun x => decide (200 < x.length)) = true := by
      unfold makeE at he
      rw [if_neg h40] at he
      split at he
      · assumption
      · exact absurd rfl he
    rw [show makeE all = 8 by unfold makeE; rw [if_neg h40, if_pos h8]]
    simp -implicitDefEqProofs only [go_sem, reduceIte, Nat.reduceAdd, Nat.reduceSub, Nat.reduceMul, Nat.reduceLT, Nat.reduceLeDiff, Nat.reduceEqDiff, Nat.reduceBEq, Int.reduceLE, Int.reduceLT, Int.reduceToNat, Int.reduceMul, Int.reduceAdd, Int.reduceSub, Int.reduceNeg, Int.reduceEq, reduceCtorEq, Nat.reduceMod, Int.reduceBNe, Int.reduceBEq, Int.reduceGT, Int.reduceGE, Int.reduceNe, Int.cast_ofNat_Int, Int.natCast_zero, Int.natCast_one, bne_self_eq_false, gt_iff_lt, ge_iff_le, Int.lt_irrefl, Int.le_refl, catE_length, h1]
    refine loop_l (α := Nat) (fun k => ⟨tmL [(4, .row 1 k 0 k), (5, .ptr 0 0), (13, .t (.sl (catE all)) false), (14, .t (.i .i64 all.length) true), (15, .t (.i .i64 k) true)], [.var (bC (befV (mkL all k) k)), .row k 33 (lnT (mkL all k)) true]⟩) (fun k => all.length - k) (fun k => k ≤ all.length ∧ ∀ j (hj : j < k) (hj2 : j < all.length), all[j].length ≤ 200) 0 (by simp -implicitDefEqProofs only [go_sem, reduceIte, Nat.reduceAdd, Nat.reduceSub, Nat.reduceMul, Nat.reduceLT, Nat.reduceLeDiff, Nat.reduceEqDiff, Nat.reduceBEq, Int.reduceLE, Int.reduceLT, Int.reduceToNat, Int.reduceMul, Int.reduceAdd, Int.reduceSub, Int.reduceNeg, Int.reduceEq, reduceCtorEq, Nat.reduceMod, befV_0]; rfl) ⟨Nat.zero_le _, fun j hj => by omega⟩ ?_
    rintro k ⟨hk, ha⟩ R hR
    have hml := mkL_len all k
    simp -implicitDefEqProofs only [go_sem, reduceIte, Nat.reduceAdd, Nat.reduceSub, Nat.reduceMul, Nat.reduceLT, Nat.reduceLeDiff, Nat.reduceEqDiff, Nat.reduceBEq, Int.reduceLE, Int.reduceLT, Int.reduceToNat, Int.reduceMul, Int.reduceAdd, Int.reduceSub, Int.reduceNeg, Int.reduceEq, reduceCtorEq, Nat.reduceMod, Int.reduceBNe, Int.reduceBEq, Int.reduceGT, Int.reduceGE, Int.reduceNe, Int.cast_ofNat_Int, Int.natCast_zero, Int.natCast_one, bne_self_eq_false, gt_iff_lt, ge_iff_le, Int.lt_irrefl, Int.le_refl]
    refine wcond_mk (fun hh => ?_) (fun hh => ?_)
    · have hk' : k < all.length := by have := of_decide_eq_true hh; omega
      rcases Nat.lt_or_ge 200 all[k].length with hd | hd
      · have hd' : ((200 : Int) < (all[k].length : Int)) = True := eq_true (by omega)
        simp -implicitDefEqProofs only [go_sem, reduceIte, Nat.reduceAdd, Nat.reduceSub, Nat.reduceMul, Nat.reduceLT, Nat.reduceLeDiff, Nat.reduceEqDiff, Nat.reduceBEq, Int.reduceLE, Int.reduceLT, Int.reduceToNat, Int.reduceMul, Int.reduceAdd, Int.reduceSub, Int.reduceNeg, Int.reduceEq, reduceCtorEq, Nat.reduceMod, Int.reduceBNe, Int.reduceBEq, Int.reduceGT, Int.reduceGE, Int.reduceNe, Int.cast_ofNat_Int, Int.natCast_zero, Int.natCast_one, bne_self_eq_false, gt_iff_lt, ge_iff_le, Int.lt_irrefl, Int.le_refl, catE_get hk', catE_length, hd']
      · have hd' : ((200 : Int) < (all[k].length : Int)) = False := eq_false (by omega)
        have hb32 := befV_len (mkL_OK all k) k
        have hst := stepV_len (befV (mkL all k) k) k (ofV all[k])
        have hms := mkL_step hk'
        have hbm := befV_mk hk'
        simp -implicitDefEqProofs only [go_sem, reduceIte, Nat.reduceAdd, Nat.reduceSub, Nat.reduceMul, Nat.reduceLT, Nat.reduceLeDiff, Nat.reduceEqDiff, Nat.reduceBEq, Int.reduceLE, Int.reduceLT, Int.reduceToNat, Int.reduceMul, Int.reduceAdd, Int.reduceSub, Int.reduceNeg, Int.reduceEq, reduceCtorEq, Nat.reduceMod, Int.reduceBNe, Int.reduceBEq, Int.reduceGT, Int.reduceGE, Int.reduceNe, Int.cast_ofNat_Int, Int.natCast_zero, Int.natCast_one, bne_self_eq_false, gt_iff_lt, ge_iff_le, Int.lt_irrefl, Int.le_refl, catE_get hk', catE_length, hd', hb32, bC_take hb32]
        first | refine call_k (s_chain_next (befV (mkL all k) k) k all[k] hb32 (by omega) (by omega)) ?_ | refine call_d (s_chain_next (befV (mkL all k) k) k all[k] hb32 (by omega) (by omega)) ?_
        generalize stepV (befV (mkL all k) k) k (ofV all[k]) = st at *
        simp -implicitDefEqProofs only [go_sem, reduceIte, Nat.reduceAdd, Nat.reduceSub, Nat.reduceMul, Nat.reduceLT, Nat.reduceLeDiff, Nat.reduceEqDiff, Nat.reduceBEq, Int.reduceLE, Int.reduceLT, Int.reduceToNat, Int.reduceMul, Int.reduceAdd, Int.reduceSub, Int.reduceNeg, Int.reduceEq, reduceCtorEq, Nat.reduceMod, Int.reduceBNe, Int.reduceBEq, Int.reduceGT, Int.reduceGE, Int.reduceNe, Int.cast_ofNat_Int, Int.natCast_zero, Int.natCast_one, bne_self_eq_false, gt_iff_lt, ge_iff_le, Int.lt_irrefl, Int.le_refl, bN_map, hst, bC_take hst, catE_length]
        refine ⟨bC_one _, ?_⟩
        first | refine call_k (s_slices_Clone all[k] (by omega)) ?_ | refine call_d (s_slices_Clone all[k] (by omega)) ?_
        simp -implicitDefEqProofs only [go_sem, reduceIte, Nat.reduceAdd, Nat.reduceSub, Nat.reduceMul, Nat.reduceLT, Nat.reduceLeDiff, Nat.reduceEqDiff, Nat.reduceBEq, Int.reduceLE, Int.reduceLT, Int.reduceToNat, Int.reduceMul, Int.reduceAdd, Int.reduceSub, Int.reduceNeg, Int.reduceEq, reduceCtorEq, Nat.reduceMod, Int.reduceBNe, Int.reduceBEq, Int.reduceGT, Int.reduceGE, Int.reduceNe, Int.cast_ofNat_Int, Int.natCast_zero, Int.natCast_one, bne_self_eq_false, gt_iff_lt, ge_iff_le, Int.lt_irrefl, Int.le_refl, bC_take hst, hst, embs_bC, hb32, bC_drop hb32]
        refine ⟨⟨okEs_lnT (l := [⟨all[k], st⟩]) (fun x hx => by rw [List.mem_singleton.1 hx]; exact hst), by omega, by unfold room; omega⟩, bC_one _, hR (k + 1) _ ?_ ⟨by omega, fun j hj hj2 => by rcases Nat.lt_or_ge j k with h | h; exact ha j h hj2; obtain rfl : j = k := (by omega); exact hd⟩ (by omega)⟩
        simp -implicitDefEqProofs only [go_sem, reduceIte, Nat.reduceAdd, Nat.reduceSub, Nat.reduceMul, Nat.reduceLT, Nat.reduceLeDiff, Nat.reduceEqDiff, Nat.reduceBEq, Int.reduceLE, Int.reduceLT, Int.reduceToNat, Int.reduceMul, Int.reduceAdd, Int.reduceSub, Int.reduceNeg, Int.reduceEq, reduceCtorEq, Nat.reduceMod, wrap_i64_id (show -9223372036854775808 ≤ (k : Int) + 1 by omega) (by omega), Int.natCast_add, hbm]
        rw [List.take_of_length_le (show (lnT (mkL all k)).length ≤ k by rw [lnT_length]; omega), hms, lnT_append]
        rfl
    · have hk' : k = all.length := by have := of_decide_eq_false hh; omega
      subst hk'
      exfalso
      obtain ⟨x, hx, hd⟩ := List.any_eq_true.1 h8
      obtain ⟨j, hj, rfl⟩ := List.getElem_of_mem hx
      have := ha j hj hj
      have := of_decide_eq_true hd
      omega
theorem lnT_take (l : List Lnk) : List.take l.length (lnT l) = lnT l := List.take_of_length_le (by rw [lnT_length]; exact Nat.le_refl _)
theorem s_MakeT (all : List (List (BitVec 8))) : Spec Tryd.prog 29 [.sl (catE all)] [] (.tup [.t (.sl (lnT (makeV all))) true, .t (.i .i64 (makeE all)) true]) := by
  by_cases he : makeE all = 0
  · obtain ⟨h1, h2⟩ := makeE_0 he
    have hm := lnT_take (mkL all all.length)
    rw [mkL_len] at hm
    rw [show makeV all = mkL all all.length from if_pos he, he]
    exact (s_chain_Make all h1 h2).tree (by simp -implicitDefEqProofs only [go_sem, reduceIte, Nat.reduceAdd, Nat.reduceSub, Nat.reduceMul, Nat.reduceLT, Nat.reduceLeDiff, Nat.reduceEqDiff, Nat.reduceBEq, Int.reduceLE, Int.reduceLT, Int.reduceToNat, Int.reduceMul, Int.reduceAdd, Int.reduceSub, Int.reduceNeg, Int.reduceEq, reduceCtorEq, Nat.reduceMod, hm, mkL_len])
  · rw [show makeV all = [] from if_neg he]
    exact s_chain_MakeN all he
def addE (l : List Lnk) (d : List (BitVec 8)) : Int := if headE l = 0 then if l.length < 40 then if d.length ≤ 200 then 0 else 8 else 4 else headE l
def addL (l : List Lnk) (d : List (BitVec 8)) : List Lnk := l ++ [⟨d, stepV (headV l) l.length (ofV d)⟩]
def addW (l : List Lnk) (d : List (BitVec 8)) : List Lnk := if addE l d = 0 then addL l d else []
theorem headE_0 {l : List Lnk} (h : headE l = 0) : checkV l = 0 ∧ firstV l < 0 := by
  unfold headE at h
  split at h
  · split at h
    · exact ⟨by assumption, by assumption⟩
    · cases h
  · exact absurd h (by assumption)
theorem data_le {l : List Lnk} (h : checkV l = 0) : ∀ x ∈ l, x.data.length ≤ 300 := by
  intro x hx
  obtain ⟨j, hj, rfl⟩ := List.getElem_of_mem hx
  have := (checkV_inv h).2 j hj
  omega
theorem s_chain_Add (l : List Lnk) (hl : lnOK l) (d : List (BitVec 8)) (he : headE l = 0) (h40 : l.length < 40) (hd : d.length ≤ 200) : Spec Tryd.prog 38 [.sl (lnT l), .sl (bT d)] [.row 0 33 (lnT (addL l d)) true] (.tup [.row 0 0 0 (l.length + 1), .t (.i .i64 0) true]) := by
  refine spec_ko (hold mixed) b_chain_Add [.row 0 33 (lnT (addL l d)) true] [.row 0 0 0 (l.length + 1), .t (.i .i64 0) true] ?_
  have hh := headV_len hl
  have hH := s_chain_Head l hl
  rw [he] at hH
  have h1 : (40 ≤ (l.length : Int)) = False := eq_false (by omega)
  have h2 : ((200 : Int) < (d.length : Int)) = False := eq_false (by omega)
  have hst := stepV_len (headV l) l.length (ofV d)
  have hal : addL l d = l ++ [⟨d, stepV (headV l) l.length (ofV d)⟩] := rfl
  simp -implicitDefEqProofs only [go_sem, reduceIte, Nat.reduceAdd, Nat.reduceSub, Nat.reduceMul, Nat.reduceLT, Nat.reduceLeDiff, Nat.reduceEqDiff, Nat.reduceBEq, Int.reduceLE, Int.reduceLT, Int.reduceToNat, Int.reduceMul, Int.reduceAdd, Int.reduceSub, Int.reduceNeg, Int.reduceEq, reduceCtorEq, Nat.reduceMod, Int.reduceBNe, Int.reduceBEq, Int.reduceGT, Int.reduceGE, Int.reduceNe, Int.cast_ofNat_Int, Int.natCast_zero, Int.natCast_one, bne_self_eq_false, gt_iff_lt, ge_iff_le, Int.lt_irrefl, Int.le_refl]
  first | refine call_k hH ?_ | refine call_d hH ?_
  simp -implicitDefEqProofs only [go_sem, reduceIte, Nat.reduceAdd, Nat.reduceSub, Nat.reduceMul, Nat.reduceLT, Nat.reduceLeDiff, Nat.reduceEqDiff, Nat.reduceBEq, Int.reduceLE, Int.reduceLT, Int.reduceToNat, Int.reduceMul, Int.reduceAdd, Int.reduceSub, Int.reduceNeg, Int.reduceEq, reduceCtorEq, Nat.reduceMod, Int.reduceBNe, Int.reduceBEq, Int.reduceGT, Int.reduceGE, Int.reduceNe, Int.cast_ofNat_Int, Int.natCast_zero, Int.natCast_one, bne_self_eq_false, gt_iff_lt, ge_iff_le, Int.lt_irrefl, Int.le_refl, bN_map, hh, bC_take hh, h1, h2]
  refine ⟨bC_one _, ?_⟩
  first | refine call_k (s_chain_next (headV l) l.length d hh (by omega) (by omega)) ?_ | refine call_d (s_chain_next (headV l) l.length d hh (by omega) (by omega)) ?_
  generalize stepV (headV l) l.length (ofV d) = st at *
  simp -implicitDefEqProofs only [go_sem, reduceIte, Nat.reduceAdd, Nat.reduceSub, Nat.reduceMul, Nat.reduceLT, Nat.reduceLeDiff, Nat.reduceEqDiff, Nat.reduceBEq, Int.reduceLE, Int.reduceLT, Int.reduceToNat, Int.reduceMul, Int.reduceAdd, Int.reduceSub, Int.reduceNeg, Int.reduceEq, reduceCtorEq, Nat.reduceMod, Int.reduceBNe, Int.reduceBEq, Int.reduceGT, Int.reduceGE, Int.reduceNe, Int.cast_ofNat_Int, Int.natCast_zero, Int.natCast_one, bne_self_eq_false, gt_iff_lt, ge_iff_le, Int.lt_irrefl, Int.le_refl, bN_map, hst, bC_take hst]
  refine ⟨bC_one _, ?_⟩
  first | refine call_k (s_chain_twin l hl (by omega) (data_le (headE_0 he).1)) ?_ | refine call_d (s_chain_twin l hl (by omega) (data_le (headE_0 he).1)) ?_
  simp -implicitDefEqProofs only [go_sem, reduceIte, Nat.reduceAdd, Nat.reduceSub, Nat.reduceMul, Nat.reduceLT, Nat.reduceLeDiff, Nat.reduceEqDiff, Nat.reduceBEq, Int.reduceLE, Int.reduceLT, Int.reduceToNat, Int.reduceMul, Int.reduceAdd, Int.reduceSub, Int.reduceNeg, Int.reduceEq, reduceCtorEq, Nat.reduceMod, Int.reduceBNe, Int.reduceBEq, Int.reduceGT, Int.reduceGE, Int.reduceNe, Int.cast_ofNat_Int, Int.natCast_zero, Int.natCast_one, bne_self_eq_false, gt_iff_lt, ge_iff_le, Int.lt_irrefl, Int.le_refl]
  first | refine call_k (s_slices_Clone d (by omega)) ?_ | refine call_d (s_slices_Clone d (by omega)) ?_
  have ht := lnT_take (addL l d)
  have hlen : (addL l d).length = l.length + 1 := by rw [hal, List.length_append]; rfl
  have hrow : lnT l ++ [.sl (bT d) :: bN st] = lnT (addL l d) := by rw [hal, lnT_append]; rfl
  simp -implicitDefEqProofs only [go_sem, reduceIte, Nat.reduceAdd, Nat.reduceSub, Nat.reduceMul, Nat.reduceLT, Nat.reduceLeDiff, Nat.reduceEqDiff, Nat.reduceBEq, Int.reduceLE, Int.reduceLT, Int.reduceToNat, Int.reduceMul, Int.reduceAdd, Int.reduceSub, Int.reduceNeg, Int.reduceEq, reduceCtorEq, Nat.reduceMod, Int.reduceBNe, Int.reduceBEq, Int.reduceGT, Int.reduceGE, Int.reduceNe, Int.cast_ofNat_Int, Int.natCast_zero, Int.natCast_one, bne_self_eq_false, gt_iff_lt, ge_iff_le, Int.lt_irrefl, Int.le_refl, bC_take hst, hst, embs_bC, lnT_take, hrow]
  refine ⟨⟨okEs_lnT (l := [⟨d, st⟩]) (fun x hx => by rw [List.mem_singleton.1 hx]; exact hst), by unfold room; omega⟩, ends_mk [2] ?_ ?_⟩ <;> simp -implicitDefEqProofs only [go_sem, reduceIte, Nat.reduceAdd, Nat.reduceSub, Nat.reduceMul, Nat.reduceLT, Nat.reduceLeDiff, Nat.reduceEqDiff, Nat.reduceBEq, Int.reduceLE, Int.reduceLT, Int.reduceToNat, Int.reduceMul, Int.reduceAdd, Int.reduceSub, Int.reduceNeg, Int.reduceEq, reduceCtorEq, Nat.reduceMod, Int.reduceBNe, Int.reduceBEq, Int.reduceGT, Int.reduceGE, Int.reduceNe, Int.cast_ofNat_Int, Int.natCast_zero, Int.natCast_one, bne_self_eq_false, gt_iff_lt, ge_iff_le, Int.lt_irrefl, Int.le_refl, hlen]
  rw [← hlen]
  exact ht
theorem s_chain_AddN (l : List Lnk) (hl : lnOK l) (d : List (BitVec 8)) (he : addE l d ≠ 0) : Spec Tryd.prog 38 [.sl (lnT l), .sl (bT d)] [] (.tup [.t (.sl []) true, .t (.i .i64 (addE l d)) true]) := by
  refine spec_k (hold mixed) b_chain_Add [(.sl [], true), (.i .i64 (addE l d), true)] ?_
  have hh := headV_len hl
  have hH := s_chain_Head l hl
  unfold addE at he ⊢
  simp -implicitDefEqProofs only [go_sem, reduceIte, Nat.reduceAdd, Nat.reduceSub, Nat.reduceMul, Nat.reduceLT, Nat.reduceLeDiff, Nat.reduceEqDiff, Nat.reduceBEq, Int.reduceLE, Int.reduceLT, Int.reduceToNat, Int.reduceMul, Int.reduceAdd, Int.reduceSub, Int.reduceNeg, Int.reduceEq, reduceCtorEq, Nat.reduceMod, Int.reduceBNe, Int.reduceBEq, Int.reduceGT, Int.reduceGE, Int.reduceNe, Int.cast_ofNat_Int, Int.natCast_zero, Int.natCast_one, bne_self_eq_false, gt_iff_lt, ge_iff_le, Int.lt_irrefl, Int.le_refl]
  first | refine call_k hH ?_ | refine call_d hH ?_
  by_cases h0 : headE l = 0
  · have e0 : (headE l != 0) = false := by rw [h0]; rfl
    rw [if_pos h0] at he ⊢
    by_cases h1 : l.length < 40
    · have e1 : (40 ≤ (l.length : Int)) = False := eq_false (by omega)
      rw [if_pos h1] at he ⊢
      by_cases h2 : d.length ≤ 200
      · rw [if_pos h2] at he
        exact absurd rfl he
      · have e2 : ((200 : Int) < (d.length : Int)) = True := eq_true (by omega)
        rw [if_neg h2]
        simp -implicitDefEqProofs only [go_sem, reduceIte, Nat.reduceAdd, Nat.reduceSub, Nat.reduceMul, Nat.reduceLT, Nat.reduceLeDiff, Nat.reduceEqDiff, Nat.reduceBEq, Int.reduceLE, Int.reduceLT, Int.reduceToNat, Int.reduceMul, Int.reduceAdd, Int.reduceSub, Int.reduceNeg, Int.reduceEq, reduceCtorEq, Nat.reduceMod, Int.reduceBNe, Int.reduceBEq, Int.reduceGT, Int.reduceGE, Int.reduceNe, Int.cast_ofNat_Int, Int.natCast_zero, Int.natCast_one, bne_self_eq_false, gt_iff_lt, ge_iff_le, Int.lt_irrefl, Int.le_refl, bN_map, hh, bC_take hh, e0, e1, e2]
        exact bC_one _
    · have e1 : (40 ≤ (l.length : Int)) = True := eq_true (by omega)
      rw [if_neg h1]
      simp -implicitDefEqProofs only [go_sem, reduceIte, Nat.reduceAdd, Nat.reduceSub, Nat.reduceMul, Nat.reduceLT, Nat.reduceLeDiff, Nat.reduceEqDiff, Nat.reduceBEq, Int.reduceLE, Int.reduceLT, Int.reduceToNat, Int.reduceMul, Int.reduceAdd, Int.reduceSub, Int.reduceNeg, Int.reduceEq, reduceCtorEq, Nat.reduceMod, Int.reduceBNe, Int.reduceBEq, Int.reduceGT, Int.reduceGE, Int.reduceNe, Int.cast_ofNat_Int, Int.natCast_zero, Int.natCast_one, bne_self_eq_false, gt_iff_lt, ge_iff_le, Int.lt_irrefl, Int.le_refl, bN_map, hh, bC_take hh, e0, e1]
      exact bC_one _
  · have e0 : (headE l != 0) = true := by rw [bne_iff_ne]; exact h0
    rw [if_neg h0]
    simp -implicitDefEqProofs only [go_sem, reduceIte, Nat.reduceAdd, Nat.reduceSub, Nat.reduceMul, Nat.reduceLT, Nat.reduceLeDiff, Nat.reduceEqDiff, Nat.reduceBEq, Int.reduceLE, Int.reduceLT, Int.reduceToNat, Int.reduceMul, Int.reduceAdd, Int.reduceSub, Int.reduceNeg, Int.reduceEq, reduceCtorEq, Nat.reduceMod, Int.reduceBNe, Int.reduceBEq, Int.reduceGT, Int.reduceGE, Int.reduceNe, Int.cast_ofNat_Int, Int.natCast_zero, Int.natCast_one, bne_self_eq_false, gt_iff_lt, ge_iff_le, Int.lt_irrefl, Int.le_refl, bN_map, hh, bC_take hh, e0]
    exact bC_one _
def greatB (all : List (List (BitVec 8))) : Bool := all.any (fun x => decide (300 < x.length)) || ((decide (12 < all.length) && decide (all.length ≤ 40)) || decide (50 < all.length))
theorem s_ref44_GreatBytes (all : List (List (BitVec 8))) (hn : all.length ≤ 140737488355328) : Spec Tryd.prog 28 [.sl (catE all)] [] (.t (.b (greatB all)) true) := by
  refine spec_k (hold mixed) b_ref44_GreatBytes [(.b (greatB all), true)] ?_
  simp -implicitDefEqProofs only [go_sem, reduceIte, Nat.reduceAdd, Nat.reduceSub, Nat.reduceMul, Nat.reduceLT, Nat.reduceLeDiff, Nat.reduceEqDiff, Nat.reduceBEq, Int.reduceLE, Int.reduceLT, Int.reduceToNat, Int.reduceMul, Int.reduceAdd, Int.reduceSub, Int.reduceNeg, Int.reduceEq, reduceCtorEq, Nat.reduceMod, Int.reduceBNe, Int.reduceBEq, Int.reduceGT, Int.reduceGE, Int.reduceNe, Int.cast_ofNat_Int, Int.natCast_zero, Int.natCast_one, bne_self_eq_false, gt_iff_lt, ge_iff_le, Int.lt_irrefl, Int.le_refl]
  refine loop_l (α := Nat) (fun k => ⟨tmL [(0, .t (.sl (catE all)) false), (3, .t (.i .i64 k) true)], []⟩) (fun k => all.length - k) (fun k => k ≤ all.length ∧ ∀ j (hj : j < k) (hj2 : j < all.length), all[j].length ≤ 300) 0 (by simp -implicitDefEqProofs only [go_sem, reduceIte, Nat.reduceAdd, Nat.reduceSub, Nat.reduceMul, Nat.reduceLT, Nat.reduceLeDiff, Nat.reduceEqDiff, Nat.reduceBEq, Int.reduceLE, Int.reduceLT, Int.reduceToNat, Int.reduceMul, Int.reduceAdd, Int.reduceSub, Int.reduceNeg, Int.reduceEq, reduceCtorEq, Nat.reduceMod]; rfl) ⟨Nat.zero_le _, fun j hj => by omega⟩ ?_
  rintro k ⟨hk, ha⟩ R hR
  simp -implicitDefEqProofs only [go_sem, reduceIte, Nat.reduceAdd, Nat.reduceSub, Nat.reduceMul, Nat.reduceLT, Nat.reduceLeDiff, Nat.reduceEqDiff, Nat.reduceBEq, Int.reduceLE, Int.reduceLT, Int.reduceToNat, Int.reduceMul, Int.reduceAdd, Int.reduceSub, Int.reduceNeg, Int.reduceEq, reduceCtorEq, Nat.reduceMod, Int.reduceBNe, Int.reduceBEq, Int.reduceGT, Int.reduceGE, Int.reduceNe, Int.cast_ofNat_Int, Int.natCast_zero, Int.natCast_one, bne_self_eq_false, gt_iff_lt, ge_iff_le, Int.lt_irrefl, Int.le_refl, catE_length]
  refine wcond_mk (fun hh => ?_) (fun hh => ?_)
  · have hk' : k < all.length := by have := of_decide_eq_true hh; omega
    simp -implicitDefEqProofs only [go_sem, reduceIte, Nat.reduceAdd, Nat.reduceSub, Nat.reduceMul, Nat.reduceLT, Nat.reduceLeDiff, Nat.reduceEqDiff, Nat.reduceBEq, Int.reduceLE, Int.reduceLT, Int.reduceToNat, Int.reduceMul, Int.reduceAdd, Int.reduceSub, Int.reduceNeg, Int.reduceEq, reduceCtorEq, Nat.reduceMod, Int.reduceBNe, Int.reduceBEq, Int.reduceGT, Int.reduceGE, Int.reduceNe, Int.cast_ofNat_Int, Int.natCast_zero, Int.natCast_one, bne_self_eq_false, gt_iff_lt, ge_iff_le, Int.lt_irrefl, Int.le_refl, catE_get hk', catE_length]
    refine wcond_mk (fun hb => ?_) (fun hb => ?_)
    · have hb' : 300 < all[k].length := by have := of_decide_eq_true hb; omega
      have hg : greatB all = true := by
        unfold greatB
        rw [show all.any (fun x => decide (300 < x.length)) = true from List.any_eq_true.2 ⟨all[k], List.getElem_mem hk', decide_eq_true hb'⟩]
        rfl
      simp -implicitDefEqProofs only [go_sem, reduceIte, Nat.reduceAdd, Nat.reduceSub, Nat.reduceMul, Nat.reduceLT, Nat.reduceLeDiff, Nat.reduceEqDiff, Nat.reduceBEq, Int.reduceLE, Int.reduceLT, Int.reduceToNat, Int.reduceMul, Int.reduceAdd, Int.reduceSub, Int.reduceNeg, Int.reduceEq, reduceCtorEq, Nat.reduceMod, Int.reduceBNe, Int.reduceBEq, Int.reduceGT, Int.reduceGE, Int.reduceNe, Int.cast_ofNat_Int, Int.natCast_zero, Int.natCast_one, bne_self_eq_false, gt_iff_lt, ge_iff_le, Int.lt_irrefl, Int.le_refl, hg]
    · have hb' : all[k].length ≤ 300 := by have := of_decide_eq_false hb; omega
      simp -implicitDefEqProofs only [go_sem, reduceIte, Nat.reduceAdd, Nat.reduceSub, Nat.reduceMul, Nat.reduceLT, Nat.reduceLeDiff, Nat.reduceEqDiff, Nat.reduceBEq, Int.reduceLE, Int.reduceLT, Int.reduceToNat, Int.reduceMul, Int.reduceAdd, Int.reduceSub, Int.reduceNeg, Int.reduceEq, reduceCtorEq, Nat.reduceMod, Int.reduceBNe, Int.reduceBEq, Int.reduceGT, Int.reduceGE, Int.reduceNe, Int.cast_ofNat_Int, Int.natCast_zero, Int.natCast_one, bne_self_eq_false, gt_iff_lt, ge_iff_le, Int.lt_irrefl, Int.le_refl]
      refine hR (k + 1) _ ?_ ⟨by omega, fun j hj hj2 => ?_⟩ (by omega)
      · simp -implicitDefEqProofs only [go_sem, reduceIte, Nat.reduceAdd, Nat.reduceSub, Nat.reduceMul, Nat.reduceLT, Nat.reduceLeDiff, Nat.reduceEqDiff, Nat.reduceBEq, Int.reduceLE, Int.reduceLT, Int.reduceToNat, Int.reduceMul, Int.reduceAdd, Int.reduceSub, Int.reduceNeg, Int.reduceEq, reduceCtorEq, Nat.reduceMod, wrap_i64_id (show -9223372036854775808 ≤ (k : Int) + 1 by omega) (by omega), Int.natCast_add]
        rfl
      · rcases Nat.lt_or_ge j k with h | h
        · exact ha j h hj2
        · obtain rfl : j = k := by omega
          exact hb'
  · have hk' : k = all.length := by have := of_decide_eq_false hh; omega
    subst hk'
    have hg : all.any (fun x => decide (300 < x.length)) = false := by
      rw [List.any_eq_false]
      intro x hx
      obtain ⟨j, hj, rfl⟩ := List.getElem_of_mem hx
      have := ha j hj hj
      simp
      omega
    have hgg : greatB all = ((decide (12 < all.length) && decide (all.length ≤ 40)) || decide (50 < all.length)) := by unfold greatB; rw [hg]; rfl
    clear hR ha
    by_cases c1 : 12 < all.length
    · have d1 : ((12 : Int) < (all.length : Int)) = True := eq_true (by omega)
      by_cases c2 : all.length ≤ 40
      · have d2 : ((all.length : Int) ≤ 40) = True := eq_true (by omega)
        simp -implicitDefEqProofs only [go_sem, reduceIte, Nat.reduceAdd, Nat.reduceSub, Nat.reduceMul, Nat.reduceLT, Nat.reduceLeDiff, Nat.reduceEqDiff, Nat.reduceBEq, Int.reduceLE, Int.reduceLT, Int.reduceToNat, Int.reduceMul, Int.reduceAdd, Int.reduceSub, Int.reduceNeg, Int.reduceEq, reduceCtorEq, Nat.reduceMod, Int.reduceBNe, Int.reduceBEq, Int.reduceGT, Int.reduceGE, Int.reduceNe, Int.cast_ofNat_Int, Int.natCast_zero, Int.natCast_one, bne_self_eq_false, gt_iff_lt, ge_iff_le, Int.lt_irrefl, Int.le_refl, d1, d2, hgg, c1, c2, catE_length]
      · have d2 : ((all.length : Int) ≤ 40) = False := eq_false (by omega)
        simp -implicitDefEqProofs only [go_sem, reduceIte, Nat.reduceAdd, Nat.reduceSub, Nat.reduceMul, Nat.reduceLT, Nat.reduceLeDiff, Nat.reduceEqDiff, Nat.reduceBEq, Int.reduceLE, Int.reduceLT, Int.reduceToNat, Int.reduceMul, Int.reduceAdd, Int.reduceSub, Int.reduceNeg, Int.reduceEq, reduceCtorEq, Nat.reduceMod, Int.reduceBNe, Int.reduceBEq, Int.reduceGT, Int.reduceGE, Int.reduceNe, Int.cast_ofNat_Int, Int.natCast_zero, Int.natCast_one, bne_self_eq_false, gt_iff_lt, ge_iff_le, Int.lt_irrefl, Int.le_refl, d1, d2, hgg, c1, c2, catE_length]
        rw [decide_eq_decide.2 (show (50 : Int) < (all.length : Int) ↔ 50 < all.length by omega)]
    · have d1 : ((12 : Int) < (all.length : Int)) = False := eq_false (by omega)
      simp -implicitDefEqProofs only [go_sem, reduceIte, Nat.reduceAdd, Nat.reduceSub, Nat.reduceMul, Nat.reduceLT, Nat.reduceLeDiff, Nat.reduceEqDiff, Nat.reduceBEq, Int.reduceLE, Int.reduceLT, Int.reduceToNat, Int.reduceMul, Int.reduceAdd, Int.reduceSub, Int.reduceNeg, Int.reduceEq, reduceCtorEq, Nat.reduceMod, Int.reduceBNe, Int.reduceBEq, Int.reduceGT, Int.reduceGE, Int.reduceNe, Int.cast_ofNat_Int, Int.natCast_zero, Int.natCast_one, bne_self_eq_false, gt_iff_lt, ge_iff_le, Int.lt_irrefl, Int.le_refl, d1, hgg, c1, catE_length]
      rw [decide_eq_decide.2 (show (50 : Int) < (all.length : Int) ↔ 50 < all.length by omega)]
theorem toNat_u8 (b : BitVec 8) : (UInt8.ofNat b.toNat) = ⟨b⟩ := by
  apply UInt8.toBitVec_inj.1
  simp [UInt8.ofNat]
theorem strOf_data (x : List (BitVec 8)) : (strOf (bT x)).data.toList = x.map fun b => (⟨b⟩ : UInt8) := by
  unfold strOf bT
  simp only [List.map_map]
  refine List.map_congr_left fun b _ => ?_
  show UInt8.ofNat ((b.toNat : Int)).toNat = _
  rw [Int.toNat_natCast, toNat_u8]
theorem toList_loop (bs : ByteArray) : ∀ (k i : Nat) (r : List UInt8), bs.size - i = k → ByteArray.toList.loop bs i r = r.reverse ++ bs.data.toList.drop i
  | 0, i, r, h => by
    unfold ByteArray.toList.loop
    have hs : bs.size = bs.data.toList.length := rfl
    rw [if_neg (by omega), List.drop_of_length_le (by omega), List.append_nil]
  | k + 1, i, r, h => by
    unfold ByteArray.toList.loop
    have hs : bs.size = bs.data.toList.length := rfl
    have hi : i < bs.data.toList.length := by omega
    rw [if_pos (by omega), toList_loop bs k (i + 1) _ (by omega), List.reverse_cons, List.append_assoc, List.drop_eq_getElem_cons hi]
    have hg : bs.get! i = bs.data.toList[i] := by
      show bs.data[i]! = _
      simp at hi
      simp [hi]
    rw [hg]
    rfl
theorem toList_data (bs : ByteArray) : bs.toList = bs.data.toList := by
  unfold ByteArray.toList
  rw [toList_loop bs _ 0 [] rfl]
  simp
theorem strB_eq (x y : List (BitVec 8)) : ((strOf (bT x)).toList == (strOf (bT y)).toList) = (x == y) := by
  rw [toList_data, toList_data, strOf_data, strOf_data, Bool.eq_iff_iff, beq_iff_eq, beq_iff_eq]
  refine ⟨fun h => ?_, fun h => by rw [h]⟩
  exact (List.map_inj_right (fun a b e => by injection e)).1 h
theorem areBytes_bT (x : List (BitVec 8)) : areBytes (bT x) := by
  intro e he
  simp only [bT, List.mem_map] at he
  obtain ⟨b, _, rfl⟩ := he
  exact ⟨_, rfl⟩
theorem s_ref44_Same (a b : List Lnk) (ha : lnOK a) (hb : lnOK b) (ha2 : a.length ≤ 1000) (hb2 : b.length ≤ 1000) : Spec Tryd.prog 43 [.sl (lnT a), .sl (lnT b)] [] (.t (.b (a == b)) true) := by
  refine spec_k (hold mixed) b_ref44_Same [(.b (a == b), true)] ?_
  by_cases hl : a.length = b.length
  · have e0 : ((a.length : Int) != (b.length : Int)) = false := by rw [hl]; simp
    simp -implicitDefEqProofs only [go_sem, reduceIte, Nat.reduceAdd, Nat.reduceSub, Nat.reduceMul, Nat.reduceLT, Nat.reduceLeDiff, Nat.reduceEqDiff, Nat.reduceBEq, Int.reduceLE, Int.reduceLT, Int.reduceToNat, Int.reduceMul, Int.reduceAdd, Int.reduceSub, Int.reduceNeg, Int.reduceEq, reduceCtorEq, Nat.reduceMod, Int.reduceBNe, Int.reduceBEq, Int.reduceGT, Int.reduceGE, Int.reduceNe, Int.cast_ofNat_Int, Int.natCast_zero, Int.natCast_one, bne_self_eq_false, gt_iff_lt, ge_iff_le, Int.lt_irrefl, Int.le_refl, e0]
    refine loop_l (α := Nat) (fun k => ⟨tmL [(0, .t (.sl (lnT a)) false), (1, .t (.sl (lnT b)) false), (5, .t (.i .i64 k) true)], []⟩) (fun k => a.length - k) (fun k => k ≤ a.length ∧ a.take k = b.take k) 0 (by simp -implicitDefEqProofs only [go_sem, reduceIte, Nat.reduceAdd, Nat.reduceSub, Nat.reduceMul, Nat.reduceLT, Nat.reduceLeDiff, Nat.reduceEqDiff, Nat.reduceBEq, Int.reduceLE, Int.reduceLT, Int.reduceToNat, Int.reduceMul, Int.reduceAdd, Int.reduceSub, Int.reduceNeg, Int.reduceEq, reduceCtorEq, Nat.reduceMod]; rfl) ⟨Nat.zero_le _, rfl⟩ ?_
    rintro k ⟨hk, he⟩ R hR
    simp -implicitDefEqProofs only [go_sem, reduceIte, Nat.reduceAdd, Nat.reduceSub, Nat.reduceMul, Nat.reduceLT, Nat.reduceLeDiff, Nat.reduceEqDiff, Nat.reduceBEq, Int.reduceLE, Int.reduceLT, Int.reduceToNat, Int.reduceMul, Int.reduceAdd, Int.reduceSub, Int.reduceNeg, Int.reduceEq, reduceCtorEq, Nat.reduceMod, Int.reduceBNe, Int.reduceBEq, Int.reduceGT, Int.reduceGE, Int.reduceNe, Int.cast_ofNat_Int, Int.natCast_zero, Int.natCast_one, bne_self_eq_false, gt_iff_lt, ge_iff_le, Int.lt_irrefl, Int.le_refl]
    refine wcond_mk (fun hh => ?_) (fun hh => ?_)
    · have hka : k < a.length := by have := of_decide_eq_true hh; omega
      have hkb : k < b.length := by omega
      have h3a := lnOK_get ha hka
      have h3b := lnOK_get hb hkb
      have hAB : a[k] ≠ b[k] → (a == b) = false := fun hne => by
        rw [beq_eq_false_iff_ne]
        intro e
        subst e
        exact hne rfl
      generalize hxa : a[k] = xa at *
      generalize hxb : b[k] = xb at *
      obtain ⟨da, sa⟩ := xa
      obtain ⟨db, sb⟩ := xb
      simp only at h3a h3b
      have hEa := lnT_get hka
      have hEb := lnT_get hkb
      rw [hxa] at hEa
      rw [hxb] at hEb
      by_cases hs : sa = sb
      · have e1 : (sa == sb) = true := by rw [hs]; simp
        by_cases hd : da = db
        · have e2 : (da == db) = true := by rw [hd]; simp
          simp -implicitDefEqProofs only [go_sem, reduceIte, Nat.reduceAdd, Nat.reduceSub, Nat.reduceMul, Nat.reduceLT, Nat.reduceLeDiff, Nat.reduceEqDiff, Nat.reduceBEq, Int.reduceLE, Int.reduceLT, Int.reduceToNat, Int.reduceMul, Int.reduceAdd, Int.reduceSub, Int.reduceNeg, Int.reduceEq, reduceCtorEq, Nat.reduceMod, Int.reduceBNe, Int.reduceBEq, Int.reduceGT, Int.reduceGE, Int.reduceNe, Int.cast_ofNat_Int, Int.natCast_zero, Int.natCast_one, bne_self_eq_false, gt_iff_lt, ge_iff_le, Int.lt_irrefl, Int.le_refl, hEa, hEb, bN_take h3a, bN_take h3b, h3a, h3b, eqCells_bN sa sb (by rw [h3a, h3b]), e1, e2, strB_eq]
          refine ⟨bN_isI _, areBytes_bT _, areBytes_bT _, hR (k + 1) _ ?_ ⟨by omega, ?_⟩ (by omega)⟩
          · simp -implicitDefEqProofs only [go_sem, reduceIte, Nat.reduceAdd, Nat.reduceSub, Nat.reduceMul, Nat.reduceLT, Nat.reduceLeDiff, Nat.reduceEqDiff, Nat.reduceBEq, Int.reduceLE, Int.reduceLT, Int.reduceToNat, Int.reduceMul, Int.reduceAdd, Int.reduceSub, Int.reduceNeg, Int.reduceEq, reduceCtorEq, Nat.reduceMod, wrap_i64_id (show -9223372036854775808 ≤ (k : Int) + 1 by omega) (by omega), Int.natCast_add]
            rfl
          · rw [← List.take_append_getElem hka, ← List.take_append_getElem hkb, he, hxa, hxb, hs, hd]
        · have e2 : (da == db) = false := by rw [beq_eq_false_iff_ne]; exact hd
          have hab := hAB (fun e => hd (by injection e))
          simp -implicitDefEqProofs only [go_sem, reduceIte, Nat.reduceAdd, Nat.reduceSub, Nat.reduceMul, Nat.reduceLT, Nat.reduceLeDiff, Nat.reduceEqDiff, Nat.reduceBEq, Int.reduceLE, Int.reduceLT, Int.reduceToNat, Int.reduceMul, Int.reduceAdd, Int.reduceSub, Int.reduceNeg, Int.reduceEq, reduceCtorEq, Nat.reduceMod, Int.reduceBNe, Int.reduceBEq, Int.reduceGT, Int.reduceGE, Int.reduceNe, Int.cast_ofNat_Int, Int.natCast_zero, Int.natCast_one, bne_self_eq_false, gt_iff_lt, ge_iff_le, Int.lt_irrefl, Int.le_refl, hEa, hEb, bN_take h3a, bN_take h3b, h3a, h3b, eqCells_bN sa sb (by rw [h3a, h3b]), e1, e2, strB_eq, hab]
          exact ⟨bN_isI _, areBytes_bT _, areBytes_bT _⟩
      · have e1 : (sa == sb) = false := by rw [beq_eq_false_iff_ne]; exact hs
        have hab := hAB (fun e => hs (by injection e))
        simp -implicitDefEqProofs only [go_sem, reduceIte, Nat.reduceAdd, Nat.reduceSub, Nat.reduceMul, Nat.reduceLT, Nat.reduceLeDiff, Nat.reduceEqDiff, Nat.reduceBEq, Int.reduceLE, Int.reduceLT, Int.reduceToNat, Int.reduceMul, Int.reduceAdd, Int.reduceSub, Int.reduceNeg, Int.reduceEq, reduceCtorEq, Nat.reduceMod, Int.reduceBNe, Int.reduceBEq, Int.reduceGT, Int.reduceGE, Int.reduceNe, Int.cast_ofNat_Int, Int.natCast_zero, Int.natCast_one, bne_self_eq_false, gt_iff_lt, ge_iff_le, Int.lt_irrefl, Int.le_refl, hEa, hEb, bN_take h3a, bN_take h3b, h3a, h3b, eqCells_bN sa sb (by rw [h3a, h3b]), e1, hab]
        exact bN_isI _
    · have hk' : k = a.length := by have := of_decide_eq_false hh; omega
      subst hk'
      have h2 : (a == b) = true := by
        rw [List.take_length] at he
        rw [beq_iff_eq, he, hl, List.take_length]
      simp -implicitDefEqProofs only [go_sem, reduceIte, Nat.reduceAdd, Nat.reduceSub, Nat.reduceMul, Nat.reduceLT, Nat.reduceLeDiff, Nat.reduceEqDiff, Nat.reduceBEq, Int.reduceLE, Int.reduceLT, Int.reduceToNat, Int.reduceMul, Int.reduceAdd, Int.reduceSub, Int.reduceNeg, Int.reduceEq, reduceCtorEq, Nat.reduceMod, Int.reduceBNe, Int.reduceBEq, Int.reduceGT, Int.reduceGE, Int.reduceNe, Int.cast_ofNat_Int, Int.natCast_zero, Int.natCast_one, bne_self_eq_false, gt_iff_lt, ge_iff_le, Int.lt_irrefl, Int.le_refl, h2]
  · have e0 : ((a.length : Int) != (b.length : Int)) = true := by rw [bne_iff_ne]; omega
    have h2 : (a == b) = false := by rw [beq_eq_false_iff_ne]; intro e; exact hl (by rw [e])
    simp -implicitDefEqProofs only [go_sem, reduceIte, Nat.reduceAdd, Nat.reduceSub, Nat.reduceMul, Nat.reduceLT, Nat.reduceLeDiff, Nat.reduceEqDiff, Nat.reduceBEq, Int.reduceLE, Int.reduceLT, Int.reduceToNat, Int.reduceMul, Int.reduceAdd, Int.reduceSub, Int.reduceNeg, Int.reduceEq, reduceCtorEq, Nat.reduceMod, Int.reduceBNe, Int.reduceBEq, Int.reduceGT, Int.reduceGE, Int.reduceNe, Int.cast_ofNat_Int, Int.natCast_zero, Int.natCast_one, bne_self_eq_false, gt_iff_lt, ge_iff_le, Int.lt_irrefl, Int.le_refl, e0, h2]
def greatL (l : List Lnk) : Bool := l.any (fun x => decide (300 < x.data.length)) || ((decide (12 < l.length) && decide (l.length ≤ 40)) || decide (50 < l.length))
theorem s_ref44_Great (l : List Lnk) (hl : lnOK l) (hn : l.length ≤ 140737488355328) : Spec Tryd.prog 35 [.sl (lnT l)] [] (.t (.b (greatL l)) true) := by
  refine spec_k (hold mixed) b_ref44_Great [(.b (greatL l), true)] ?_
  simp -implicitDefEqProofs only [go_sem, reduceIte, Nat.reduceAdd, Nat.reduceSub, Nat.reduceMul, Nat.reduceLT, Nat.reduceLeDiff, Nat.reduceEqDiff, Nat.reduceBEq, Int.reduceLE, Int.reduceLT, Int.reduceToNat, Int.reduceMul, Int.reduceAdd, Int.reduceSub, Int.reduceNeg, Int.reduceEq, reduceCtorEq, Nat.reduceMod, Int.reduceBNe, Int.reduceBEq, Int.reduceGT, Int.reduceGE, Int.reduceNe, Int.cast_ofNat_Int, Int.natCast_zero, Int.natCast_one, bne_self_eq_false, gt_iff_lt, ge_iff_le, Int.lt_irrefl, Int.le_refl]
  refine loop_l (α := Nat) (fun k => ⟨tmL [(0, .t (.sl (lnT l)) false), (3, .t (.i .i64 k) true)], []⟩) (fun k => l.length - k) (fun k => k ≤ l.length ∧ ∀ j (hj : j < k) (hj2 : j < l.length), l[j].data.length ≤ 300) 0 (by simp -implicitDefEqProofs only [go_sem, reduceIte, Nat.reduceAdd, Nat.reduceSub, Nat.reduceMul, Nat.reduceLT, Nat.reduceLeDiff, Nat.reduceEqDiff, Nat.reduceBEq, Int.reduceLE, Int.reduceLT, Int.reduceToNat, Int.reduceMul, Int.reduceAdd, Int.reduceSub, Int.reduceNeg, Int.reduceEq, reduceCtorEq, Nat.reduceMod]; rfl) ⟨Nat.zero_le _, fun j hj => by omega⟩ ?_
  rintro k ⟨hk, ha⟩ R hR
  simp -implicitDefEqProofs only [go_sem, reduceIte, Nat.reduceAdd, Nat.reduceSub, Nat.reduceMul, Nat.reduceLT, Nat.reduceLeDiff, Nat.reduceEqDiff, Nat.reduceBEq, Int.reduceLE, Int.reduceLT, Int.reduceToNat, Int.reduceMul, Int.reduceAdd, Int.reduceSub, Int.reduceNeg, Int.reduceEq, reduceCtorEq, Nat.reduceMod, Int.reduceBNe, Int.reduceBEq, Int.reduceGT, Int.reduceGE, Int.reduceNe, Int.cast_ofNat_Int, Int.natCast_zero, Int.natCast_one, bne_self_eq_false, gt_iff_lt, ge_iff_le, Int.lt_irrefl, Int.le_refl]
  refine wcond_mk (fun hh => ?_) (fun hh => ?_)
  · have hk' : k < l.length := by have := of_decide_eq_true hh; omega
    have h32 := lnOK_get hl hk'
    simp -implicitDefEqProofs only [go_sem, reduceIte, Nat.reduceAdd, Nat.reduceSub, Nat.reduceMul, Nat.reduceLT, Nat.reduceLeDiff, Nat.reduceEqDiff, Nat.reduceBEq, Int.reduceLE, Int.reduceLT, Int.reduceToNat, Int.reduceMul, Int.reduceAdd, Int.reduceSub, Int.reduceNeg, Int.reduceEq, reduceCtorEq, Nat.reduceMod, Int.reduceBNe, Int.reduceBEq, Int.reduceGT, Int.reduceGE, Int.reduceNe, Int.cast_ofNat_Int, Int.natCast_zero, Int.natCast_one, bne_self_eq_false, gt_iff_lt, ge_iff_le, Int.lt_irrefl, Int.le_refl, lnT_get hk', h32]
    refine wcond_mk (fun hb => ?_) (fun hb => ?_)
    · have hb' : 300 < l[k].data.length := by have := of_decide_eq_true hb; omega
      have hg : greatL l = true := by
        unfold greatL
        rw [show l.any (fun x => decide (300 < x.data.length)) = true from List.any_eq_true.2 ⟨l[k], List.getElem_mem hk', decide_eq_true hb'⟩]
        rfl
      simp -implicitDefEqProofs only [go_sem, reduceIte, Nat.reduceAdd, Nat.reduceSub, Nat.reduceMul, Nat.reduceLT, Nat.reduceLeDiff, Nat.reduceEqDiff, Nat.reduceBEq, Int.reduceLE, Int.reduceLT, Int.reduceToNat, Int.reduceMul, Int.reduceAdd, Int.reduceSub, Int.reduceNeg, Int.reduceEq, reduceCtorEq, Nat.reduceMod, Int.reduceBNe, Int.reduceBEq, Int.reduceGT, Int.reduceGE, Int.reduceNe, Int.cast_ofNat_Int, Int.natCast_zero, Int.natCast_one, bne_self_eq_false, gt_iff_lt, ge_iff_le, Int.lt_irrefl, Int.le_refl, hg]
    · have hb' : l[k].data.length ≤ 300 := by have := of_decide_eq_false hb; omega
      simp -implicitDefEqProofs only [go_sem, reduceIte, Nat.reduceAdd, Nat.reduceSub, Nat.reduceMul, Nat.reduceLT, Nat.reduceLeDiff, Nat.reduceEqDiff, Nat.reduceBEq, Int.reduceLE, Int.reduceLT, Int.reduceToNat, Int.reduceMul, Int.reduceAdd, Int.reduceSub, Int.reduceNeg, Int.reduceEq, reduceCtorEq, Nat.reduceMod, Int.reduceBNe, Int.reduceBEq, Int.reduceGT, Int.reduceGE, Int.reduceNe, Int.cast_ofNat_Int, Int.natCast_zero, Int.natCast_one, bne_self_eq_false, gt_iff_lt, ge_iff_le, Int.lt_irrefl, Int.le_refl]
      refine hR (k + 1) _ ?_ ⟨by omega, fun j hj hj2 => ?_⟩ (by omega)
      · simp -implicitDefEqProofs only [go_sem, reduceIte, Nat.reduceAdd, Nat.reduceSub, Nat.reduceMul, Nat.reduceLT, Nat.reduceLeDiff, Nat.reduceEqDiff, Nat.reduceBEq, Int.reduceLE, Int.reduceLT, Int.reduceToNat, Int.reduceMul, Int.reduceAdd, Int.reduceSub, Int.reduceNeg, Int.reduceEq, reduceCtorEq, Nat.reduceMod, wrap_i64_id (show -9223372036854775808 ≤ (k : Int) + 1 by omega) (by omega), Int.natCast_add]
        rfl
      · rcases Nat.lt_or_ge j k with h | h
        · exact ha j h hj2
        · obtain rfl : j = k := by omega
          exact hb'
  · have hk' : k = l.length := by have := of_decide_eq_false hh; omega
    subst hk'
    have hg : l.any (fun x => decide (300 < x.data.length)) = false := by
      rw [List.any_eq_false]
      intro x hx
      obtain ⟨j, hj, rfl⟩ := List.getElem_of_mem hx
      have := ha j hj hj
      simp
      omega
    have hgg : greatL l = ((decide (12 < l.length) && decide (l.length ≤ 40)) || decide (50 < l.length)) := by unfold greatL; rw [hg]; rfl
    clear hR ha
    by_cases c1 : 12 < l.length
    · have d1 : ((12 : Int) < (l.length : Int)) = True := eq_true (by omega)
      by_cases c2 : l.length ≤ 40
      · have d2 : ((l.length : Int) ≤ 40) = True := eq_true (by omega)
        simp -implicitDefEqProofs only [go_sem, reduceIte, Nat.reduceAdd, Nat.reduceSub, Nat.reduceMul, Nat.reduceLT, Nat.reduceLeDiff, Nat.reduceEqDiff, Nat.reduceBEq, Int.reduceLE, Int.reduceLT, Int.reduceToNat, Int.reduceMul, Int.reduceAdd, Int.reduceSub, Int.reduceNeg, Int.reduceEq, reduceCtorEq, Nat.reduceMod, Int.reduceBNe, Int.reduceBEq, Int.reduceGT, Int.reduceGE, Int.reduceNe, Int.cast_ofNat_Int, Int.natCast_zero, Int.natCast_one, bne_self_eq_false, gt_iff_lt, ge_iff_le, Int.lt_irrefl, Int.le_refl, d1, d2, hgg, c1, c2]
      · have d2 : ((l.length : Int) ≤ 40) = False := eq_false (by omega)
        simp -implicitDefEqProofs only [go_sem, reduceIte, Nat.reduceAdd, Nat.reduceSub, Nat.reduceMul, Nat.reduceLT, Nat.reduceLeDiff, Nat.reduceEqDiff, Nat.reduceBEq, Int.reduceLE, Int.reduceLT, Int.reduceToNat, Int.reduceMul, Int.reduceAdd, Int.reduceSub, Int.reduceNeg, Int.reduceEq, reduceCtorEq, Nat.reduceMod, Int.reduceBNe, Int.reduceBEq, Int.reduceGT, Int.reduceGE, Int.reduceNe, Int.cast_ofNat_Int, Int.natCast_zero, Int.natCast_one, bne_self_eq_false, gt_iff_lt, ge_iff_le, Int.lt_irrefl, Int.le_refl, d1, d2, hgg, c1, c2]
        rw [decide_eq_decide.2 (show (50 : Int) < (l.length : Int) ↔ 50 < l.length by omega)]
    · have d1 : ((12 : Int) < (l.length : Int)) = False := eq_false (by omega)
      simp -implicitDefEqProofs only [go_sem, reduceIte, Nat.reduceAdd, Nat.reduceSub, Nat.reduceMul, Nat.reduceLT, Nat.reduceLeDiff, Nat.reduceEqDiff, Nat.reduceBEq, Int.reduceLE, Int.reduceLT, Int.reduceToNat, Int.reduceMul, Int.reduceAdd, Int.reduceSub, Int.reduceNeg, Int.reduceEq, reduceCtorEq, Nat.reduceMod, Int.reduceBNe, Int.reduceBEq, Int.reduceGT, Int.reduceGE, Int.reduceNe, Int.cast_ofNat_Int, Int.natCast_zero, Int.natCast_one, bne_self_eq_false, gt_iff_lt, ge_iff_le, Int.lt_irrefl, Int.le_refl, d1, hgg, c1]
      rw [decide_eq_decide.2 (show (50 : Int) < (l.length : Int) ↔ 50 < l.length by omega)]
theorem greatL_f {l : List Lnk} (h : greatL l = false) : l.length ≤ 50 ∧ ∀ x ∈ l, x.data.length ≤ 300 := by
  unfold greatL at h
  simp only [Bool.or_eq_false_iff, List.any_eq_false, decide_eq_true_eq, decide_eq_false_iff_not] at h
  exact ⟨by omega, fun x hx => by have := h.1 x hx; omega⟩
theorem greatB_f {l : List (List (BitVec 8))} (h : greatB l = false) : l.length ≤ 50 ∧ ∀ x ∈ l, x.length ≤ 300 := by
  unfold greatB at h
  simp only [Bool.or_eq_false_iff, List.any_eq_false, decide_eq_true_eq, decide_eq_false_iff_not] at h
  exact ⟨by omega, fun x hx => by have := h.1 x hx; omega⟩
structure Wit where
  pos : Int
  prev : List (BitVec 8)
  data : List (BitVec 8)
  later : List (List (BitVec 8))
  deriving DecidableEq
def idT (ds : List (List (BitVec 8))) : List (List T) := ds.map bN
theorem idT_length (ds : List (List (BitVec 8))) : (idT ds).length = ds.length := by simp [idT]
attribute [go_sem] idT_length
def Wit.cells (w : Wit) : List T := .i .i64 w.pos :: (bN w.prev ++ [.sl (bT w.data), .sl (idT w.later)])
def Wit.zero : Wit := ⟨0, z32, [], []⟩
structure IdC (PC : List AV) (d : List (BitVec 8)) : Prop where
  len : PC.length = 32
  emb : ∀ h, embs h PC = some (bN d, true, [])
  to : ∀ m h, List.map (toT1 m h) PC = PC
  all : ∀ m, PC.all (below m) = true
  one : ∀ v ∈ PC, v.one
  arg : ∀ h, argCs h PC (bN d) = True
theorem IdC.dr {PC : List AV} {d : List (BitVec 8)} (h : IdC PC d) (X : List AV) (j : Nat) : List.drop (32 + j) (PC ++ X) = List.drop j X := by
  have := List.drop_length_add_append (l₁ := PC) (l₂ := X) j
  rwa [h.len] at this
theorem IdC.at {PC : List AV} {d : List (BitVec 8)} (h : IdC PC d) (X : List AV) (j : Nat) : (PC ++ X)[32 + j]? = X[j]? := by
  rw [List.getElem?_append_right (by rw [h.len]; omega), h.len, Nat.add_sub_cancel_left]
theorem flat1 {f : BitVec 8 → T} : ∀ {qs : List (List T)}, (∀ q ∈ qs, ∃ b : BitVec 8, q = [.i .u8 b.toNat]) → ∃ bs : List (BitVec 8), qs.flatten = bN bs ∧ bs.length = qs.length
  | [], _ => ⟨[], rfl, rfl⟩
  | q :: qs, h => by
    obtain ⟨b, rfl⟩ := h q (by simp)
    obtain ⟨bs, e, hl⟩ := flat1 (f := f) (qs := qs) fun q hq => h q (by simp [hq])
    exact ⟨b :: bs, by rw [List.flatten_cons, e]; rfl, by simp [hl]⟩
theorem fits_id {d : Nat} {xs : List T} (hf : Fits Tryd.prog (d + 2) 26 xs) : ∃ bs : List (BitVec 8), xs = bN bs ∧ bs.length = 32 := by
  obtain ⟨qs, rfl, hl, hq⟩ := fits_arr ti26 hf
  obtain ⟨bs, e, hb⟩ := flat1 (f := fun _ => .b true) (qs := qs) fun q hq' => fits_u8' ti5 (hq q hq')
  exact ⟨bs, e, by omega⟩
theorem fits_link {d : Nat} {xs : List T} (hf : Fits Tryd.prog (d + 3) 64 xs) : ∃ r : Lnk, xs = r.E ∧ r.sum.length = 32 := by
  obtain ⟨ps, rfl, h⟩ := fits_struct ti64 hf
  obtain ⟨p0, ps, rfl, h0, h⟩ := all2_cons h
  obtain ⟨p1, ps, rfl, h1, h⟩ := all2_cons h
  obtain rfl := all2_nil h
  obtain ⟨cs, rfl, ha⟩ := fits_bs ti22 ti5 h0
  obtain ⟨bs, rfl, hb⟩ := fits_id h1
  exact ⟨⟨cs, bs⟩, by simp [Lnk.E], hb⟩
theorem arg_links {d : Nat} {x : T} (h : ArgFits Tryd.prog (d + 4) 56 x) : ∃ l : List Lnk, x = .sl (lnT l) ∧ lnOK l ∧ l.length ≤ 140737488355328 := by
  obtain ⟨es, e, hr, hf⟩ := fits_sl ti56 (arg_sl ti56 h)
  simp only [List.cons.injEq, and_true] at e
  obtain ⟨l, rfl, hp⟩ := list_form2 (f := Lnk.E) (p := fun r => r.sum.length = 32) fun y hy => fits_link (hf y hy)
  exact ⟨l, e, hp, by simpa [room] using hr⟩
theorem arg_bss {d : Nat} {x : T} (h : ArgFits Tryd.prog (d + 3) 54 x) : ∃ l : List (List (BitVec 8)), x = .sl (catE l) ∧ l.length ≤ 140737488355328 := by
  obtain ⟨es, e, hr, hf⟩ := fits_sl ti54 (arg_sl ti54 h)
  simp only [List.cons.injEq, and_true] at e
  obtain ⟨l, rfl, hp⟩ := list_form2 (f := fun b : List (BitVec 8) => [T.sl (bT b)]) (p := fun _ => True) fun y hy => by
    obtain ⟨bs, e, _⟩ := fits_bs ti22 ti5 (hf y hy)
    exact ⟨bs, e, trivial⟩
  exact ⟨l, e, by simpa [room] using hr⟩
end Go.Proofs.YtgkmhmhbepfiaaaDoor.Pm
