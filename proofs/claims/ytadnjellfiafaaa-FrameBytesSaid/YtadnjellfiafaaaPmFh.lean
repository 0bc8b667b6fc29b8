/- frame: the bytes of records. No law of Go's is stated here. -/
import Derived.Test.YtadnjellfiafaaaPmFg
set_option linter.all false
set_option maxRecDepth 100000
namespace Go.Proofs.Ytadnjellfiafaaa.Pm
open Go Go.RowKit

theorem s_frame_All_1 (r : Rec) : Spec Try.prog 58 [.agg r.cells] [] (.t (.b (!r.ok)) true) := by
  refine spec_k (hold mixed) b_frame_All_1 [(.b (!r.ok), true)] ?_
  simp -implicitDefEqProofs only [go_sem, reduceIte, Nat.reduceAdd, Nat.reduceSub, Nat.reduceMul, Nat.reduceLT, Nat.reduceLeDiff, Nat.reduceEqDiff, Nat.reduceBEq, Int.reduceLE, Int.reduceLT, Int.reduceToNat, Int.reduceMul, Int.reduceAdd, Int.reduceSub, Int.reduceNeg, Int.reduceEq, reduceCtorEq, Nat.reduceMod, Rec.cells]
  refine call_k (s_frame_valid r) ?_ (by simp -implicitDefEqProofs only [go_sem, reduceIte, Nat.reduceAdd, Nat.reduceSub, Nat.reduceMul, Nat.reduceLT, Nat.reduceLeDiff, Nat.reduceEqDiff, Nat.reduceBEq, Int.reduceLE, Int.reduceLT, Int.reduceToNat, Int.reduceMul, Int.reduceAdd, Int.reduceSub, Int.reduceNeg, Int.reduceEq, reduceCtorEq, Nat.reduceMod, Rec.cells])
  simp -implicitDefEqProofs only [go_sem, reduceIte, Nat.reduceAdd, Nat.reduceSub, Nat.reduceMul, Nat.reduceLT, Nat.reduceLeDiff, Nat.reduceEqDiff, Nat.reduceBEq, Int.reduceLE, Int.reduceLT, Int.reduceToNat, Int.reduceMul, Int.reduceAdd, Int.reduceSub, Int.reduceNeg, Int.reduceEq, reduceCtorEq, Nat.reduceMod]
/-- Captured values, as a call of the closure sees them. -/
def capV (cap : List T) : List AV := cap.map (AV.t · false)
theorem capV_all (h : H) (cap : List T) : argsOK h (capV cap) cap := by
  induction cap with
  | nil => simp [capV, argsOK]
  | cons x xs ih =>
    simp only [capV, List.map_cons] at ih ⊢
    rw [argsOK_cons]
    exact ⟨by simp [argOK, arg1], ih⟩
theorem capV_argCs (h : H) (cap : List T) : argCs h (capV cap) cap := by
  induction cap with
  | nil => simp [capV, argCs]
  | cons x xs ih =>
    simp only [capV, List.map_cons] at ih ⊢
    rw [argCs_cons]
    exact ⟨by simp [arg1], ih⟩
theorem capV_loose (cap : List T) : (capV cap).any AV.loose = false := by
  rw [List.any_eq_false]
  intro v hv
  simp only [capV, List.mem_map] at hv
  obtain ⟨x, _, rfl⟩ := hv
  simp [AV.loose]
theorem capV_allf (cap : List T) (f : AV → Bool) (hf : ∀ x, f (AV.t x false) = true) : (capV cap).all f = true := by
  simp only [capV, List.all_map, List.all_eq_true]
  intro x _
  exact hf x
theorem capV_below (m g : Nat) (cap : List T) : below m (.fn g (capV cap)) = true := by
  simp [below, capV]
def ixF {α : Type} (p : α → Bool) (l : List α) : Int := match l.findIdx? p with
  | some i => (i : Nat)
  | none => -1
theorem findIdx_at {α : Type} {p : α → Bool} {l : List α} {k : Nat} (hk : k < l.length) (h : (l.take k).any p = false) (hp : p l[k] = true) : l.findIdx? p = some k := by
  rw [List.findIdx?_eq_some_iff_getElem]
  refine ⟨hk, hp, fun j hj => ?_⟩
  rw [List.any_eq_false] at h
  exact h _ (List.mem_take_iff_getElem.2 ⟨j, by omega, rfl⟩)
theorem s_slices_IndexFunc (l : List Rec) (g : Nat) (cap : List T) (p : Rec → Bool) (hn : l.length ≤ 1000000) (hp : ∀ r ∈ l, Spec Try.prog g (.agg r.cells :: cap) [] (.t (.b (p r)) true)) : Spec Try.prog 65 [.sl (recsT l), .fn g cap] [] (.t (.i .i64 (ixF p l)) true) := by
  refine spec_k (hold mixed) b_slices_IndexFunc [(.i .i64 (ixF p l), true)] ?_
  have cf : List.map (fun x => AV.t x false) cap = capV cap := rfl
  simp -implicitDefEqProofs only [go_sem, reduceIte, Nat.reduceAdd, Nat.reduceSub, Nat.reduceMul, Nat.reduceLT, Nat.reduceLeDiff, Nat.reduceEqDiff, Nat.reduceBEq, Int.reduceLE, Int.reduceLT, Int.reduceToNat, Int.reduceMul, Int.reduceAdd, Int.reduceSub, Int.reduceNeg, Int.reduceEq, reduceCtorEq, Nat.reduceMod, recsT_length, cf]
  refine loop_l (α := Nat) (fun k => ⟨tmL [(0, .t (.sl (recsT l)) false), (1, .fn g (capV cap)), (7, .t (.i .i64 l.length) true), (8, .t (.i .i64 k) true)], []⟩) (fun k => l.length - k) (fun k => k ≤ l.length ∧ (l.take k).any p = false) 0 (by simp -implicitDefEqProofs only [go_sem, reduceIte, Nat.reduceAdd, Nat.reduceSub, Nat.reduceMul, Nat.reduceLT, Nat.reduceLeDiff, Nat.reduceEqDiff, Nat.reduceBEq, Int.reduceLE, Int.reduceLT, Int.reduceToNat, Int.reduceMul, Int.reduceAdd, Int.reduceSub, Int.reduceNeg, Int.reduceEq, reduceCtorEq, Nat.reduceMod, capV_allf]; rfl) ⟨by omega, rfl⟩ ?_
  rintro k ⟨hk, he⟩ R hR
  simp -implicitDefEqProofs only [go_sem, reduceIte, Nat.reduceAdd, Nat.reduceSub, Nat.reduceMul, Nat.reduceLT, Nat.reduceLeDiff, Nat.reduceEqDiff, Nat.reduceBEq, Int.reduceLE, Int.reduceLT, Int.reduceToNat, Int.reduceMul, Int.reduceAdd, Int.reduceSub, Int.reduceNeg, Int.reduceEq, reduceCtorEq, Nat.reduceMod]
  refine wcond_mk (fun h => ?_) (fun h => ?_)
  · have hk' : k < l.length := by have := of_decide_eq_true h; omega
    simp -implicitDefEqProofs only [go_sem, reduceIte, Nat.reduceAdd, Nat.reduceSub, Nat.reduceMul, Nat.reduceLT, Nat.reduceLeDiff, Nat.reduceEqDiff, Nat.reduceBEq, Int.reduceLE, Int.reduceLT, Int.reduceToNat, Int.reduceMul, Int.reduceAdd, Int.reduceSub, Int.reduceNeg, Int.reduceEq, reduceCtorEq, Nat.reduceMod, recsT_get hk', recsT_length, Rec.cells]
    refine call_k (hp l[k] (List.getElem_mem hk')) ?_ (by simp -implicitDefEqProofs only [go_sem, reduceIte, Nat.reduceAdd, Nat.reduceSub, Nat.reduceMul, Nat.reduceLT, Nat.reduceLeDiff, Nat.reduceEqDiff, Nat.reduceBEq, Int.reduceLE, Int.reduceLT, Int.reduceToNat, Int.reduceMul, Int.reduceAdd, Int.reduceSub, Int.reduceNeg, Int.reduceEq, reduceCtorEq, Nat.reduceMod, Rec.cells]; exact capV_all _ _) (by simp -implicitDefEqProofs only [go_sem, reduceIte, Nat.reduceAdd, Nat.reduceSub, Nat.reduceMul, Nat.reduceLT, Nat.reduceLeDiff, Nat.reduceEqDiff, Nat.reduceBEq, Int.reduceLE, Int.reduceLT, Int.reduceToNat, Int.reduceMul, Int.reduceAdd, Int.reduceSub, Int.reduceNeg, Int.reduceEq, reduceCtorEq, Nat.reduceMod, capV_loose])
    simp -implicitDefEqProofs only [go_sem, reduceIte, Nat.reduceAdd, Nat.reduceSub, Nat.reduceMul, Nat.reduceLT, Nat.reduceLeDiff, Nat.reduceEqDiff, Nat.reduceBEq, Int.reduceLE, Int.reduceLT, Int.reduceToNat, Int.reduceMul, Int.reduceAdd, Int.reduceSub, Int.reduceNeg, Int.reduceEq, reduceCtorEq, Nat.reduceMod]
    refine wcond_mk (fun h => ?_) (fun h => ?_)
    · have hx : ixF p l = (k : Nat) := by unfold ixF; rw [findIdx_at hk' he h]
      simp -implicitDefEqProofs only [go_sem, reduceIte, Nat.reduceAdd, Nat.reduceSub, Nat.reduceMul, Nat.reduceLT, Nat.reduceLeDiff, Nat.reduceEqDiff, Nat.reduceBEq, Int.reduceLE, Int.reduceLT, Int.reduceToNat, Int.reduceMul, Int.reduceAdd, Int.reduceSub, Int.reduceNeg, Int.reduceEq, reduceCtorEq, Nat.reduceMod, hx]
    · simp -implicitDefEqProofs only [go_sem, reduceIte, Nat.reduceAdd, Nat.reduceSub, Nat.reduceMul, Nat.reduceLT, Nat.reduceLeDiff, Nat.reduceEqDiff, Nat.reduceBEq, Int.reduceLE, Int.reduceLT, Int.reduceToNat, Int.reduceMul, Int.reduceAdd, Int.reduceSub, Int.reduceNeg, Int.reduceEq, reduceCtorEq, Nat.reduceMod]
      refine hR (k + 1) _ ?_ ⟨by omega, ?_⟩ (by omega)
      · simp -implicitDefEqProofs only [go_sem, reduceIte, Nat.reduceAdd, Nat.reduceSub, Nat.reduceMul, Nat.reduceLT, Nat.reduceLeDiff, Nat.reduceEqDiff, Nat.reduceBEq, Int.reduceLE, Int.reduceLT, Int.reduceToNat, Int.reduceMul, Int.reduceAdd, Int.reduceSub, Int.reduceNeg, Int.reduceEq, reduceCtorEq, Nat.reduceMod, wrap_i64_id (show -9223372036854775808 ≤ (k : Int) + 1 by omega) (by omega), Int.natCast_add, capV_allf]
        rfl
      · rw [← List.take_append_getElem hk', List.any_append, he]
        simp [h]
  · have hk' : ¬ k < l.length := by have := of_decide_eq_false h; omega
    obtain rfl : k = l.length := by omega
    rw [List.take_length] at he
    have hx : ixF p l = -1 := by
      unfold ixF
      have : l.findIdx? p = none := by
        rw [List.findIdx?_eq_none_iff]
        intro x hx
        rw [List.any_eq_false] at he
        simpa using he x hx
      rw [this]
    simp -implicitDefEqProofs only [go_sem, reduceIte, Nat.reduceAdd, Nat.reduceSub, Nat.reduceMul, Nat.reduceLT, Nat.reduceLeDiff, Nat.reduceEqDiff, Nat.reduceBEq, Int.reduceLE, Int.reduceLT, Int.reduceToNat, Int.reduceMul, Int.reduceAdd, Int.reduceSub, Int.reduceNeg, Int.reduceEq, reduceCtorEq, Nat.reduceMod, hx]
theorem s_slices_ContainsFunc (l : List Rec) (g : Nat) (cap : List T) (p : Rec → Bool) (hn : l.length ≤ 1000000) (hp : ∀ r ∈ l, Spec Try.prog g (.agg r.cells :: cap) [] (.t (.b (p r)) true)) : Spec Try.prog 57 [.sl (recsT l), .fn g cap] [] (.t (.b (l.any p)) true) := by
  refine spec_k (hold mixed) b_slices_ContainsFunc [(.b (l.any p), true)] ?_
  have cf : List.map (fun x => AV.t x false) cap = capV cap := rfl
  simp -implicitDefEqProofs only [go_sem, reduceIte, Nat.reduceAdd, Nat.reduceSub, Nat.reduceMul, Nat.reduceLT, Nat.reduceLeDiff, Nat.reduceEqDiff, Nat.reduceBEq, Int.reduceLE, Int.reduceLT, Int.reduceToNat, Int.reduceMul, Int.reduceAdd, Int.reduceSub, Int.reduceNeg, Int.reduceEq, reduceCtorEq, Nat.reduceMod, cf]
  refine call_k (s_slices_IndexFunc l g cap p hn hp) ?_ (by simp -implicitDefEqProofs only [go_sem, reduceIte, Nat.reduceAdd, Nat.reduceSub, Nat.reduceMul, Nat.reduceLT, Nat.reduceLeDiff, Nat.reduceEqDiff, Nat.reduceBEq, Int.reduceLE, Int.reduceLT, Int.reduceToNat, Int.reduceMul, Int.reduceAdd, Int.reduceSub, Int.reduceNeg, Int.reduceEq, reduceCtorEq, Nat.reduceMod]; exact capV_argCs _ _) (by simp -implicitDefEqProofs only [go_sem, reduceIte, Nat.reduceAdd, Nat.reduceSub, Nat.reduceMul, Nat.reduceLT, Nat.reduceLeDiff, Nat.reduceEqDiff, Nat.reduceBEq, Int.reduceLE, Int.reduceLT, Int.reduceToNat, Int.reduceMul, Int.reduceAdd, Int.reduceSub, Int.reduceNeg, Int.reduceEq, reduceCtorEq, Nat.reduceMod, capV_loose])
  simp -implicitDefEqProofs only [go_sem, reduceIte, Nat.reduceAdd, Nat.reduceSub, Nat.reduceMul, Nat.reduceLT, Nat.reduceLeDiff, Nat.reduceEqDiff, Nat.reduceBEq, Int.reduceLE, Int.reduceLT, Int.reduceToNat, Int.reduceMul, Int.reduceAdd, Int.reduceSub, Int.reduceNeg, Int.reduceEq, reduceCtorEq, Nat.reduceMod]
  have hx : decide (ixF p l ≥ 0) = l.any p := by
    unfold ixF
    cases hf : l.findIdx? p with
    | none =>
      rw [List.findIdx?_eq_none_iff] at hf
      have : l.any p = false := by
        rw [List.any_eq_false]
        intro x hx
        simp [hf x hx]
      simp [this]
    | some i =>
      rw [List.findIdx?_eq_some_iff_getElem] at hf
      obtain ⟨hi, h1, _⟩ := hf
      have : l.any p = true := List.any_eq_true.2 ⟨l[i], List.getElem_mem hi, h1⟩
      simp [this]
  simp -implicitDefEqProofs only [go_sem, reduceIte, Nat.reduceAdd, Nat.reduceSub, Nat.reduceMul, Nat.reduceLT, Nat.reduceLeDiff, Nat.reduceEqDiff, Nat.reduceBEq, Int.reduceLE, Int.reduceLT, Int.reduceToNat, Int.reduceMul, Int.reduceAdd, Int.reduceSub, Int.reduceNeg, Int.reduceEq, reduceCtorEq, Nat.reduceMod, hx]
def catR (l : List Rec) : List (BitVec 8) := (l.map bytesL).flatten
theorem catR_step {l : List Rec} {k : Nat} (h : k < l.length) : catR (l.take (k + 1)) = catR (l.take k) ++ bytesL l[k] := by
  unfold catR
  rw [← List.take_append_getElem h, List.map_append, List.flatten_append]
  simp
theorem catR_le (l : List Rec) (k : Nat) : (catR (l.take k)).length ≤ (catR l).length := by
  unfold catR
  conv => rhs; rw [← List.take_append_drop k l]
  rw [List.map_append, List.flatten_append, List.length_append]
  omega
def allOk (l : List Rec) : Bool := !(l.any fun r => !r.ok)
theorem s_frame_All_bad (l : List Rec) (hn : l.length ≤ 1000000) (h : allOk l = false) : Spec Try.prog 34 [.sl (recsT l)] [] (.tup [.nl, .t (.i .i64 8) true]) := by
  refine spec_ko (hold mixed) b_frame_All [] [.nl, .t (.i .i64 8) true] ?_
  simp -implicitDefEqProofs only [go_sem, reduceIte, Nat.reduceAdd, Nat.reduceSub, Nat.reduceMul, Nat.reduceLT, Nat.reduceLeDiff, Nat.reduceEqDiff, Nat.reduceBEq, Int.reduceLE, Int.reduceLT, Int.reduceToNat, Int.reduceMul, Int.reduceAdd, Int.reduceSub, Int.reduceNeg, Int.reduceEq, reduceCtorEq, Nat.reduceMod]
  refine call_k (s_slices_ContainsFunc l 58 [] (fun r => !r.ok) hn (fun r _ => s_frame_All_1 r)) ?_
  have h1 : (l.any fun r => !r.ok) = true := by simpa [allOk] using h
  simp -implicitDefEqProofs only [go_sem, reduceIte, Nat.reduceAdd, Nat.reduceSub, Nat.reduceMul, Nat.reduceLT, Nat.reduceLeDiff, Nat.reduceEqDiff, Nat.reduceBEq, Int.reduceLE, Int.reduceLT, Int.reduceToNat, Int.reduceMul, Int.reduceAdd, Int.reduceSub, Int.reduceNeg, Int.reduceEq, reduceCtorEq, Nat.reduceMod, h1]
  refine ends_mk [] ?_ ?_ <;> simp -implicitDefEqProofs only [go_sem, reduceIte, Nat.reduceAdd, Nat.reduceSub, Nat.reduceMul, Nat.reduceLT, Nat.reduceLeDiff, Nat.reduceEqDiff, Nat.reduceBEq, Int.reduceLE, Int.reduceLT, Int.reduceToNat, Int.reduceMul, Int.reduceAdd, Int.reduceSub, Int.reduceNeg, Int.reduceEq, reduceCtorEq, Nat.reduceMod]
def allF (l : List Rec) (k : Nat) : S := ⟨tmL [(4, .row 0 k 0 (catR (l.take k)).length), (9, .t (.sl (recsT l)) false), (10, .t (.i .i64 l.length) true), (11, .t (.i .i64 k) true)], [.row k 1 (bT (catR (l.take k))) true]⟩
theorem allOk_get {l : List Rec} (h : allOk l = true) {k : Nat} (hk : k < l.length) : 0 ≤ l[k].num ∧ l[k].num ≤ 1000000000 ∧ l[k].data.length ≤ 1000 := by
  have h1 : (l.any fun r => !r.ok) = false := by simpa [allOk] using h
  rw [List.any_eq_false] at h1
  have := h1 l[k] (List.getElem_mem hk)
  exact l[k].ok_iff.1 (by simpa using this)
theorem s_frame_All_many (l : List Rec) (hn : l.length ≤ 1000000) (h : allOk l = true) (hm : 20000 < (catR l).length) : Spec Try.prog 34 [.sl (recsT l)] [] (.tup [.nl, .t (.i .i64 4) true]) := by
  refine spec_ko (hold mixed) b_frame_All [] [.nl, .t (.i .i64 4) true] ?_
  simp -implicitDefEqProofs only [go_sem, reduceIte, Nat.reduceAdd, Nat.reduceSub, Nat.reduceMul, Nat.reduceLT, Nat.reduceLeDiff, Nat.reduceEqDiff, Nat.reduceBEq, Int.reduceLE, Int.reduceLT, Int.reduceToNat, Int.reduceMul, Int.reduceAdd, Int.reduceSub, Int.reduceNeg, Int.reduceEq, reduceCtorEq, Nat.reduceMod]
  refine call_k (s_slices_ContainsFunc l 58 [] (fun r => !r.ok) hn (fun r _ => s_frame_All_1 r)) ?_
  have h1 : (l.any fun r => !r.ok) = false := by simpa [allOk] using h
  simp -implicitDefEqProofs only [go_sem, reduceIte, Nat.reduceAdd, Nat.reduceSub, Nat.reduceMul, Nat.reduceLT, Nat.reduceLeDiff, Nat.reduceEqDiff, Nat.reduceBEq, Int.reduceLE, Int.reduceLT, Int.reduceToNat, Int.reduceMul, Int.reduceAdd, Int.reduceSub, Int.reduceNeg, Int.reduceEq, reduceCtorEq, Nat.reduceMod, h1, recsT_length]
  refine loop_l (α := Nat) (allF l) (fun k => l.length - k) (fun k => k ≤ l.length ∧ (catR (l.take k)).length ≤ 20000) 0 (by simp -implicitDefEqProofs only [go_sem, reduceIte, Nat.reduceAdd, Nat.reduceSub, Nat.reduceMul, Nat.reduceLT, Nat.reduceLeDiff, Nat.reduceEqDiff, Nat.reduceBEq, Int.reduceLE, Int.reduceLT, Int.reduceToNat, Int.reduceMul, Int.reduceAdd, Int.reduceSub, Int.reduceNeg, Int.reduceEq, reduceCtorEq, Nat.reduceMod]; rfl) ⟨by omega, by simp [catR]⟩ ?_
  rintro k ⟨hk, he⟩ R hR
  simp -implicitDefEqProofs only [go_sem, reduceIte, Nat.reduceAdd, Nat.reduceSub, Nat.reduceMul, Nat.reduceLT, Nat.reduceLeDiff, Nat.reduceEqDiff, Nat.reduceBEq, Int.reduceLE, Int.reduceLT, Int.reduceToNat, Int.reduceMul, Int.reduceAdd, Int.reduceSub, Int.reduceNeg, Int.reduceEq, reduceCtorEq, Nat.reduceMod, allF]
  refine wcond_mk (fun h => ?_) (fun h => ?_)
  · have hk' : k < l.length := by have := of_decide_eq_true h; omega
    obtain ⟨g0, g1, g2⟩ := allOk_get ‹_› hk'
    have w1 : IntKind.i64.wrap (((catR (l.take k)).length : Int) + 12) = (((catR (l.take k)).length + 12 : Nat) : Int) := by rw [wrap_i64_id (by omega) (by omega)]; omega
    have w2 : IntKind.i64.wrap ((((catR (l.take k)).length + 12 : Nat) : Int) + (l[k].data.length : Int)) = (((catR (l.take k)).length + 12 + l[k].data.length : Nat) : Int) := by rw [wrap_i64_id (by omega) (by omega)]; omega
    have hs := catR_step hk'
    have hl := bytesL_length l[k]
    have hle := catR_le l (k + 1)
    rw [hs, List.length_append, hl] at hle
    simp -implicitDefEqProofs only [go_sem, reduceIte, Nat.reduceAdd, Nat.reduceSub, Nat.reduceMul, Nat.reduceLT, Nat.reduceLeDiff, Nat.reduceEqDiff, Nat.reduceBEq, Int.reduceLE, Int.reduceLT, Int.reduceToNat, Int.reduceMul, Int.reduceAdd, Int.reduceSub, Int.reduceNeg, Int.reduceEq, reduceCtorEq, Nat.reduceMod, recsT_get hk', recsT_length, Rec.cells, w1, w2]
    refine wcond_mk (fun h => ?_) (fun h => ?_)
    · simp -implicitDefEqProofs only [go_sem, reduceIte, Nat.reduceAdd, Nat.reduceSub, Nat.reduceMul, Nat.reduceLT, Nat.reduceLeDiff, Nat.reduceEqDiff, Nat.reduceBEq, Int.reduceLE, Int.reduceLT, Int.reduceToNat, Int.reduceMul, Int.reduceAdd, Int.reduceSub, Int.reduceNeg, Int.reduceEq, reduceCtorEq, Nat.reduceMod]
      refine ends_mk [] ?_ ?_ <;> simp -implicitDefEqProofs only [go_sem, reduceIte, Nat.reduceAdd, Nat.reduceSub, Nat.reduceMul, Nat.reduceLT, Nat.reduceLeDiff, Nat.reduceEqDiff, Nat.reduceBEq, Int.reduceLE, Int.reduceLT, Int.reduceToNat, Int.reduceMul, Int.reduceAdd, Int.reduceSub, Int.reduceNeg, Int.reduceEq, reduceCtorEq, Nat.reduceMod]
    · have h4 := of_decide_eq_false h
      simp -implicitDefEqProofs only [go_sem, reduceIte, Nat.reduceAdd, Nat.reduceSub, Nat.reduceMul, Nat.reduceLT, Nat.reduceLeDiff, Nat.reduceEqDiff, Nat.reduceBEq, Int.reduceLE, Int.reduceLT, Int.reduceToNat, Int.reduceMul, Int.reduceAdd, Int.reduceSub, Int.reduceNeg, Int.reduceEq, reduceCtorEq, Nat.reduceMod]
      refine call_k (s_frame_write (catR (l.take k)) l[k] (by omega) g0 g1 g2) ?_ (by simp -implicitDefEqProofs only [go_sem, reduceIte, Nat.reduceAdd, Nat.reduceSub, Nat.reduceMul, Nat.reduceLT, Nat.reduceLeDiff, Nat.reduceEqDiff, Nat.reduceBEq, Int.reduceLE, Int.reduceLT, Int.reduceToNat, Int.reduceMul, Int.reduceAdd, Int.reduceSub, Int.reduceNeg, Int.reduceEq, reduceCtorEq, Nat.reduceMod, Rec.cells, bT_take_self])
      simp -implicitDefEqProofs only [go_sem, reduceIte, Nat.reduceAdd, Nat.reduceSub, Nat.reduceMul, Nat.reduceLT, Nat.reduceLeDiff, Nat.reduceEqDiff, Nat.reduceBEq, Int.reduceLE, Int.reduceLT, Int.reduceToNat, Int.reduceMul, Int.reduceAdd, Int.reduceSub, Int.reduceNeg, Int.reduceEq, reduceCtorEq, Nat.reduceMod]
      refine hR (k + 1) _ ?_ ⟨by omega, by rw [hs, List.length_append, hl]; omega⟩ (by omega)
      simp -implicitDefEqProofs only [go_sem, reduceIte, Nat.reduceAdd, Nat.reduceSub, Nat.reduceMul, Nat.reduceLT, Nat.reduceLeDiff, Nat.reduceEqDiff, Nat.reduceBEq, Int.reduceLE, Int.reduceLT, Int.reduceToNat, Int.reduceMul, Int.reduceAdd, Int.reduceSub, Int.reduceNeg, Int.reduceEq, reduceCtorEq, Nat.reduceMod, wrap_i64_id (show -9223372036854775808 ≤ (k : Int) + 1 by omega) (by omega), Int.natCast_add]
      rw [← hs]
      rfl
  · have hk' : ¬ k < l.length := by have := of_decide_eq_false h; omega
    obtain rfl : k = l.length := by omega
    rw [List.take_length] at he
    omega
theorem s_frame_All_ok (l : List Rec) (hn : l.length ≤ 1000000) (h : allOk l = true) (hm : (catR l).length ≤ 20000) : Spec Try.prog 34 [.sl (recsT l)] [.row 0 1 (bT (catR l)) true] (.tup [.row 0 0 0 (catR l).length, .t (.i .i64 0) true]) := by
  refine spec_ko (hold mixed) b_frame_All [.row 0 1 (bT (catR l)) true] [.row 0 0 0 (catR l).length, .t (.i .i64 0) true] ?_
  simp -implicitDefEqProofs only [go_sem, reduceIte, Nat.reduceAdd, Nat.reduceSub, Nat.reduceMul, Nat.reduceLT, Nat.reduceLeDiff, Nat.reduceEqDiff, Nat.reduceBEq, Int.reduceLE, Int.reduceLT, Int.reduceToNat, Int.reduceMul, Int.reduceAdd, Int.reduceSub, Int.reduceNeg, Int.reduceEq, reduceCtorEq, Nat.reduceMod]
  refine call_k (s_slices_ContainsFunc l 58 [] (fun r => !r.ok) hn (fun r _ => s_frame_All_1 r)) ?_
  have h1 : (l.any fun r => !r.ok) = false := by simpa [allOk] using h
  simp -implicitDefEqProofs only [go_sem, reduceIte, Nat.reduceAdd, Nat.reduceSub, Nat.reduceMul, Nat.reduceLT, Nat.reduceLeDiff, Nat.reduceEqDiff, Nat.reduceBEq, Int.reduceLE, Int.reduceLT, Int.reduceToNat, Int.reduceMul, Int.reduceAdd, Int.reduceSub, Int.reduceNeg, Int.reduceEq, reduceCtorEq, Nat.reduceMod, h1, recsT_length]
  refine loop_l (α := Nat) (allF l) (fun k => l.length - k) (fun k => k ≤ l.length) 0 (by simp -implicitDefEqProofs only [go_sem, reduceIte, Nat.reduceAdd, Nat.reduceSub, Nat.reduceMul, Nat.reduceLT, Nat.reduceLeDiff, Nat.reduceEqDiff, Nat.reduceBEq, Int.reduceLE, Int.reduceLT, Int.reduceToNat, Int.reduceMul, Int.reduceAdd, Int.reduceSub, Int.reduceNeg, Int.reduceEq, reduceCtorEq, Nat.reduceMod]; rfl) (by omega) ?_
  intro k hk R hR
  simp -implicitDefEqProofs only [go_sem, reduceIte, Nat.reduceAdd, Nat.reduceSub, Nat.reduceMul, Nat.reduceLT, Nat.reduceLeDiff, Nat.reduceEqDiff, Nat.reduceBEq, Int.reduceLE, Int.reduceLT, Int.reduceToNat, Int.reduceMul, Int.reduceAdd, Int.reduceSub, Int.reduceNeg, Int.reduceEq, reduceCtorEq, Nat.reduceMod, allF]
  refine wcond_mk (fun h => ?_) (fun h => ?_)
  · have hk' : k < l.length := by have := of_decide_eq_true h; omega
    obtain ⟨g0, g1, g2⟩ := allOk_get ‹_› hk'
    have he := catR_le l k
    have hs := catR_step hk'
    have hl := bytesL_length l[k]
    have hle := catR_le l (k + 1)
    rw [hs, List.length_append, hl] at hle
    have w1 : IntKind.i64.wrap (((catR (l.take k)).length : Int) + 12) = (((catR (l.take k)).length + 12 : Nat) : Int) := by rw [wrap_i64_id (by omega) (by omega)]; omega
    have w2 : IntKind.i64.wrap ((((catR (l.take k)).length + 12 : Nat) : Int) + (l[k].data.length : Int)) = (((catR (l.take k)).length + 12 + l[k].data.length : Nat) : Int) := by rw [wrap_i64_id (by omega) (by omega)]; omega
    have h3 : ((((catR (l.take k)).length + 12 + l[k].data.length : Nat) : Int) > 20000) = False := eq_false (by omega)
    simp -implicitDefEqProofs only [go_sem, reduceIte, Nat.reduceAdd, Nat.reduceSub, Nat.reduceMul, Nat.reduceLT, Nat.reduceLeDiff, Nat.reduceEqDiff, Nat.reduceBEq, Int.reduceLE, Int.reduceLT, Int.reduceToNat, Int.reduceMul, Int.reduceAdd, Int.reduceSub, Int.reduceNeg, Int.reduceEq, reduceCtorEq, Nat.reduceMod, recsT_get hk', recsT_length, Rec.cells, w1, w2, h3]
    refine call_k (s_frame_write (catR (l.take k)) l[k] (by omega) g0 g1 g2) ?_ (by simp -implicitDefEqProofs only [go_sem, reduceIte, Nat.reduceAdd, Nat.reduceSub, Nat.reduceMul, Nat.reduceLT, Nat.reduceLeDiff, Nat.reduceEqDiff, Nat.reduceBEq, Int.reduceLE, Int.reduceLT, Int.reduceToNat, Int.reduceMul, Int.reduceAdd, Int.reduceSub, Int.reduceNeg, Int.reduceEq, reduceCtorEq, Nat.reduceMod, Rec.cells, bT_take_self])
    simp -implicitDefEqProofs only [go_sem, reduceIte, Nat.reduceAdd, Nat.reduceSub, Nat.reduceMul, Nat.reduceLT, Nat.reduceLeDiff, Nat.reduceEqDiff, Nat.reduceBEq, Int.reduceLE, Int.reduceLT, Int.reduceToNat, Int.reduceMul, Int.reduceAdd, Int.reduceSub, Int.reduceNeg, Int.reduceEq, reduceCtorEq, Nat.reduceMod]
    refine hR (k + 1) _ ?_ (by omega) (by omega)
    simp -implicitDefEqProofs only [go_sem, reduceIte, Nat.reduceAdd, Nat.reduceSub, Nat.reduceMul, Nat.reduceLT, Nat.reduceLeDiff, Nat.reduceEqDiff, Nat.reduceBEq, Int.reduceLE, Int.reduceLT, Int.reduceToNat, Int.reduceMul, Int.reduceAdd, Int.reduceSub, Int.reduceNeg, Int.reduceEq, reduceCtorEq, Nat.reduceMod, wrap_i64_id (show -9223372036854775808 ≤ (k : Int) + 1 by omega) (by omega), Int.natCast_add]
    rw [← hs]
    rfl
  · have hk' : ¬ k < l.length := by have := of_decide_eq_false h; omega
    obtain rfl : k = l.length := by omega
    simp -implicitDefEqProofs only [go_sem, reduceIte, Nat.reduceAdd, Nat.reduceSub, Nat.reduceMul, Nat.reduceLT, Nat.reduceLeDiff, Nat.reduceEqDiff, Nat.reduceBEq, Int.reduceLE, Int.reduceLT, Int.reduceToNat, Int.reduceMul, Int.reduceAdd, Int.reduceSub, Int.reduceNeg, Int.reduceEq, reduceCtorEq, Nat.reduceMod, List.take_length]
    refine ends_mk [0] ?_ ?_
    · simp -implicitDefEqProofs only [go_sem, reduceIte, Nat.reduceAdd, Nat.reduceSub, Nat.reduceMul, Nat.reduceLT, Nat.reduceLeDiff, Nat.reduceEqDiff, Nat.reduceBEq, Int.reduceLE, Int.reduceLT, Int.reduceToNat, Int.reduceMul, Int.reduceAdd, Int.reduceSub, Int.reduceNeg, Int.reduceEq, reduceCtorEq, Nat.reduceMod]
      exact bT_take_self _
    · simp -implicitDefEqProofs only [go_sem, reduceIte, Nat.reduceAdd, Nat.reduceSub, Nat.reduceMul, Nat.reduceLT, Nat.reduceLeDiff, Nat.reduceEqDiff, Nat.reduceBEq, Int.reduceLE, Int.reduceLT, Int.reduceToNat, Int.reduceMul, Int.reduceAdd, Int.reduceSub, Int.reduceNeg, Int.reduceEq, reduceCtorEq, Nat.reduceMod]
/-! The reference -/
theorem catR_length_step {l : List Rec} {k : Nat} (h : k < l.length) : (catR (l.take (k + 1))).length = (catR (l.take k)).length + 12 + l[k].data.length := by
  rw [catR_step h, List.length_append, bytesL_length]; omega
def refN (l : List Rec) (k : Nat) : Nat := min (catR (l.take k)).length 20001
theorem refN_step {l : List Rec} {k : Nat} (h : k < l.length) : min (refN l k + 12 + l[k].data.length) 20001 = refN l (k + 1) := by
  unfold refN
  rw [catR_length_step h]
  omega
theorem refN_min {l : List Rec} {k : Nat} (h : k < l.length) : (if (20001 : Int) < ((refN l k + 12 + l[k].data.length : Nat) : Int) then (20001 : Int) else ((refN l k + 12 + l[k].data.length : Nat) : Int)) = ((refN l (k + 1) : Nat) : Int) := by
  have := refN_step h
  split <;> omega
theorem allOk_not {l : List Rec} (h : allOk l = false) : ¬ (l.any fun r => !r.ok) = false := by simpa [allOk] using h
theorem s_ref03_All_bad (l : List Rec) (hn : l.length ≤ 1000) (hd : ∀ r ∈ l, r.data.length ≤ 1000000) (h : allOk l = false) : Spec Try.prog 35 [.sl (recsT l)] [] (.tup [.nl, .t (.i .i64 8) true]) := by
  refine spec_ko (hold mixed) b_ref03_All [] [.nl, .t (.i .i64 8) true] ?_
  simp -implicitDefEqProofs only [go_sem, reduceIte, Nat.reduceAdd, Nat.reduceSub, Nat.reduceMul, Nat.reduceLT, Nat.reduceLeDiff, Nat.reduceEqDiff, Nat.reduceBEq, Int.reduceLE, Int.reduceLT, Int.reduceToNat, Int.reduceMul, Int.reduceAdd, Int.reduceSub, Int.reduceNeg, Int.reduceEq, reduceCtorEq, Nat.reduceMod]
  refine loop_l (α := Nat) (fun k => ⟨tmL [(0, .t (.sl (recsT l)) false), (4, .t (.i .i64 (refN l k)) true), (5, .t (.i .i64 k) true)], []⟩) (fun k => l.length - k) (fun k => k ≤ l.length ∧ (l.take k).any (fun r => !r.ok) = false) 0 (by simp -implicitDefEqProofs only [go_sem, reduceIte, Nat.reduceAdd, Nat.reduceSub, Nat.reduceMul, Nat.reduceLT, Nat.reduceLeDiff, Nat.reduceEqDiff, Nat.reduceBEq, Int.reduceLE, Int.reduceLT, Int.reduceToNat, Int.reduceMul, Int.reduceAdd, Int.reduceSub, Int.reduceNeg, Int.reduceEq, reduceCtorEq, Nat.reduceMod]; rfl) ⟨by omega, rfl⟩ ?_
  rintro k ⟨hk, he⟩ R hR
  simp -implicitDefEqProofs only [go_sem, reduceIte, Nat.reduceAdd, Nat.reduceSub, Nat.reduceMul, Nat.reduceLT, Nat.reduceLeDiff, Nat.reduceEqDiff, Nat.reduceBEq, Int.reduceLE, Int.reduceLT, Int.reduceToNat, Int.reduceMul, Int.reduceAdd, Int.reduceSub, Int.reduceNeg, Int.reduceEq, reduceCtorEq, Nat.reduceMod, recsT_length]
  refine wcond_mk (fun h => ?_) (fun h => ?_)
  · have hk' : k < l.length := by have := of_decide_eq_true h; omega
    simp -implicitDefEqProofs only [go_sem, reduceIte, Nat.reduceAdd, Nat.reduceSub, Nat.reduceMul, Nat.reduceLT, Nat.reduceLeDiff, Nat.reduceEqDiff, Nat.reduceBEq, Int.reduceLE, Int.reduceLT, Int.reduceToNat, Int.reduceMul, Int.reduceAdd, Int.reduceSub, Int.reduceNeg, Int.reduceEq, reduceCtorEq, Nat.reduceMod, recsT_get hk', recsT_length, Rec.cells]
    refine call_k (s_ref03_Valid l[k]) ?_ (by simp -implicitDefEqProofs only [go_sem, reduceIte, Nat.reduceAdd, Nat.reduceSub, Nat.reduceMul, Nat.reduceLT, Nat.reduceLeDiff, Nat.reduceEqDiff, Nat.reduceBEq, Int.reduceLE, Int.reduceLT, Int.reduceToNat, Int.reduceMul, Int.reduceAdd, Int.reduceSub, Int.reduceNeg, Int.reduceEq, reduceCtorEq, Nat.reduceMod, Rec.cells])
    cases hv : l[k].ok
    · simp -implicitDefEqProofs only [go_sem, reduceIte, Nat.reduceAdd, Nat.reduceSub, Nat.reduceMul, Nat.reduceLT, Nat.reduceLeDiff, Nat.reduceEqDiff, Nat.reduceBEq, Int.reduceLE, Int.reduceLT, Int.reduceToNat, Int.reduceMul, Int.reduceAdd, Int.reduceSub, Int.reduceNeg, Int.reduceEq, reduceCtorEq, Nat.reduceMod]
      refine ends_mk [] ?_ ?_ <;> simp -implicitDefEqProofs only [go_sem, reduceIte, Nat.reduceAdd, Nat.reduceSub, Nat.reduceMul, Nat.reduceLT, Nat.reduceLeDiff, Nat.reduceEqDiff, Nat.reduceBEq, Int.reduceLE, Int.reduceLT, Int.reduceToNat, Int.reduceMul, Int.reduceAdd, Int.reduceSub, Int.reduceNeg, Int.reduceEq, reduceCtorEq, Nat.reduceMod]
    · have hdk := hd _ (List.getElem_mem hk')
      have hlt : refN l k ≤ 20001 := Nat.min_le_right _ _
      have w1 : IntKind.i64.wrap ((refN l k : Int) + 12) = ((refN l k + 12 : Nat) : Int) := by rw [wrap_i64_id (by omega) (by omega)]; omega
      have w2 : IntKind.i64.wrap (((refN l k + 12 : Nat) : Int) + (l[k].data.length : Int)) = ((refN l k + 12 + l[k].data.length : Nat) : Int) := by rw [wrap_i64_id (by omega) (by omega)]; omega
      simp -implicitDefEqProofs only [go_sem, reduceIte, Nat.reduceAdd, Nat.reduceSub, Nat.reduceMul, Nat.reduceLT, Nat.reduceLeDiff, Nat.reduceEqDiff, Nat.reduceBEq, Int.reduceLE, Int.reduceLT, Int.reduceToNat, Int.reduceMul, Int.reduceAdd, Int.reduceSub, Int.reduceNeg, Int.reduceEq, reduceCtorEq, Nat.reduceMod, recsT_get hk', recsT_length, Rec.cells, w1, w2, refN_min hk']
      refine hR (k + 1) _ ?_ ⟨by omega, ?_⟩ (by omega)
      · simp -implicitDefEqProofs only [go_sem, reduceIte, Nat.reduceAdd, Nat.reduceSub, Nat.reduceMul, Nat.reduceLT, Nat.reduceLeDiff, Nat.reduceEqDiff, Nat.reduceBEq, Int.reduceLE, Int.reduceLT, Int.reduceToNat, Int.reduceMul, Int.reduceAdd, Int.reduceSub, Int.reduceNeg, Int.reduceEq, reduceCtorEq, Nat.reduceMod, wrap_i64_id (show -9223372036854775808 ≤ (k : Int) + 1 by omega) (by omega), Int.natCast_add]
        rfl
      · rw [← List.take_append_getElem hk', List.any_append, he]
        simp [hv]
  · have hk' : ¬ k < l.length := by have := of_decide_eq_false h; omega
    obtain rfl : k = l.length := by omega
    rw [List.take_length] at he
    exact absurd he (allOk_not ‹_›)
theorem s_ref03_All_many (l : List Rec) (hn : l.length ≤ 1000) (h : allOk l = true) (hm : 20000 < (catR l).length) : Spec Try.prog 35 [.sl (recsT l)] [] (.tup [.nl, .t (.i .i64 4) true]) := by
  refine spec_ko (hold mixed) b_ref03_All [] [.nl, .t (.i .i64 4) true] ?_
  simp -implicitDefEqProofs only [go_sem, reduceIte, Nat.reduceAdd, Nat.reduceSub, Nat.reduceMul, Nat.reduceLT, Nat.reduceLeDiff, Nat.reduceEqDiff, Nat.reduceBEq, Int.reduceLE, Int.reduceLT, Int.reduceToNat, Int.reduceMul, Int.reduceAdd, Int.reduceSub, Int.reduceNeg, Int.reduceEq, reduceCtorEq, Nat.reduceMod]
  refine loop_l (α := Nat) (fun k => ⟨tmL [(0, .t (.sl (recsT l)) false), (4, .t (.i .i64 (refN l k)) true), (5, .t (.i .i64 k) true)], []⟩) (fun k => l.length - k) (fun k => k ≤ l.length) 0 (by simp -implicitDefEqProofs only [go_sem, reduceIte, Nat.reduceAdd, Nat.reduceSub, Nat.reduceMul, Nat.reduceLT, Nat.reduceLeDiff, Nat.reduceEqDiff, Nat.reduceBEq, Int.reduceLE, Int.reduceLT, Int.reduceToNat, Int.reduceMul, Int.reduceAdd, Int.reduceSub, Int.reduceNeg, Int.reduceEq, reduceCtorEq, Nat.reduceMod]; rfl) (by omega) ?_
  intro k hk R hR
  simp -implicitDefEqProofs only [go_sem, reduceIte, Nat.reduceAdd, Nat.reduceSub, Nat.reduceMul, Nat.reduceLT, Nat.reduceLeDiff, Nat.reduceEqDiff, Nat.reduceBEq, Int.reduceLE, Int.reduceLT, Int.reduceToNat, Int.reduceMul, Int.reduceAdd, Int.reduceSub, Int.reduceNeg, Int.reduceEq, reduceCtorEq, Nat.reduceMod, recsT_length]
  refine wcond_mk (fun h => ?_) (fun h => ?_)
  · have hk' : k < l.length := by have := of_decide_eq_true h; omega
    simp -implicitDefEqProofs only [go_sem, reduceIte, Nat.reduceAdd, Nat.reduceSub, Nat.reduceMul, Nat.reduceLT, Nat.reduceLeDiff, Nat.reduceEqDiff, Nat.reduceBEq, Int.reduceLE, Int.reduceLT, Int.reduceToNat, Int.reduceMul, Int.reduceAdd, Int.reduceSub, Int.reduceNeg, Int.reduceEq, reduceCtorEq, Nat.reduceMod, recsT_get hk', recsT_length, Rec.cells]
    refine call_k (s_ref03_Valid l[k]) ?_ (by simp -implicitDefEqProofs only [go_sem, reduceIte, Nat.reduceAdd, Nat.reduceSub, Nat.reduceMul, Nat.reduceLT, Nat.reduceLeDiff, Nat.reduceEqDiff, Nat.reduceBEq, Int.reduceLE, Int.reduceLT, Int.reduceToNat, Int.reduceMul, Int.reduceAdd, Int.reduceSub, Int.reduceNeg, Int.reduceEq, reduceCtorEq, Nat.reduceMod, Rec.cells])
    obtain ⟨g0, g1, g2⟩ := allOk_get ‹_› hk'
    have hv := l[k].ok_iff.2 ⟨g0, g1, g2⟩
    have hlt : refN l k ≤ 20001 := Nat.min_le_right _ _
    have w1 : IntKind.i64.wrap ((refN l k : Int) + 12) = ((refN l k + 12 : Nat) : Int) := by rw [wrap_i64_id (by omega) (by omega)]; omega
    have w2 : IntKind.i64.wrap (((refN l k + 12 : Nat) : Int) + (l[k].data.length : Int)) = ((refN l k + 12 + l[k].data.length : Nat) : Int) := by rw [wrap_i64_id (by omega) (by omega)]; omega
    simp -implicitDefEqProofs only [go_sem, reduceIte, Nat.reduceAdd, Nat.reduceSub, Nat.reduceMul, Nat.reduceLT, Nat.reduceLeDiff, Nat.reduceEqDiff, Nat.reduceBEq, Int.reduceLE, Int.reduceLT, Int.reduceToNat, Int.reduceMul, Int.reduceAdd, Int.reduceSub, Int.reduceNeg, Int.reduceEq, reduceCtorEq, Nat.reduceMod, hv, recsT_get hk', recsT_length, Rec.cells, w1, w2, refN_min hk']
    refine hR (k + 1) _ ?_ (by omega) (by omega)
    simp -implicitDefEqProofs only [go_sem, reduceIte, Nat.reduceAdd, Nat.reduceSub, Nat.reduceMul, Nat.reduceLT, Nat.reduceLeDiff, Nat.reduceEqDiff, Nat.reduceBEq, Int.reduceLE, Int.reduceLT, Int.reduceToNat, Int.reduceMul, Int.reduceAdd, Int.reduceSub, Int.reduceNeg, Int.reduceEq, reduceCtorEq, Nat.reduceMod, wrap_i64_id (show -9223372036854775808 ≤ (k : Int) + 1 by omega) (by omega), Int.natCast_add]
    rfl
  · have hk' : ¬ k < l.length := by have := of_decide_eq_false h; omega
    obtain rfl : k = l.length := by omega
    have h1 : ((refN l l.length : Int) > 20000) = True := eq_true (by unfold refN; rw [List.take_length]; omega)
    simp -implicitDefEqProofs only [go_sem, reduceIte, Nat.reduceAdd, Nat.reduceSub, Nat.reduceMul, Nat.reduceLT, Nat.reduceLeDiff, Nat.reduceEqDiff, Nat.reduceBEq, Int.reduceLE, Int.reduceLT, Int.reduceToNat, Int.reduceMul, Int.reduceAdd, Int.reduceSub, Int.reduceNeg, Int.reduceEq, reduceCtorEq, Nat.reduceMod, h1]
    refine ends_mk [] ?_ ?_ <;> simp -implicitDefEqProofs only [go_sem, reduceIte, Nat.reduceAdd, Nat.reduceSub, Nat.reduceMul, Nat.reduceLT, Nat.reduceLeDiff, Nat.reduceEqDiff, Nat.reduceBEq, Int.reduceLE, Int.reduceLT, Int.reduceToNat, Int.reduceMul, Int.reduceAdd, Int.reduceSub, Int.reduceNeg, Int.reduceEq, reduceCtorEq, Nat.reduceMod]
theorem s_ref03_All_ok (l : List Rec) (hn : l.length ≤ 1000) (h : allOk l = true) (hm : (catR l).length ≤ 20000) : Spec Try.prog 35 [.sl (recsT l)] [.row 0 1 (bT (catR l)) true] (.tup [.row 0 0 0 (catR l).length, .t (.i .i64 0) true]) := by
  refine spec_ko (hold mixed) b_ref03_All [.row 0 1 (bT (catR l)) true] [.row 0 0 0 (catR l).length, .t (.i .i64 0) true] ?_
  simp -implicitDefEqProofs only [go_sem, reduceIte, Nat.reduceAdd, Nat.reduceSub, Nat.reduceMul, Nat.reduceLT, Nat.reduceLeDiff, Nat.reduceEqDiff, Nat.reduceBEq, Int.reduceLE, Int.reduceLT, Int.reduceToNat, Int.reduceMul, Int.reduceAdd, Int.reduceSub, Int.reduceNeg, Int.reduceEq, reduceCtorEq, Nat.reduceMod]
  refine loop_l (α := Nat) (fun k => ⟨tmL [(0, .t (.sl (recsT l)) false), (4, .t (.i .i64 (refN l k)) true), (5, .t (.i .i64 k) true)], []⟩) (fun k => l.length - k) (fun k => k ≤ l.length) 0 (by simp -implicitDefEqProofs only [go_sem, reduceIte, Nat.reduceAdd, Nat.reduceSub, Nat.reduceMul, Nat.reduceLT, Nat.reduceLeDiff, Nat.reduceEqDiff, Nat.reduceBEq, Int.reduceLE, Int.reduceLT, Int.reduceToNat, Int.reduceMul, Int.reduceAdd, Int.reduceSub, Int.reduceNeg, Int.reduceEq, reduceCtorEq, Nat.reduceMod]; rfl) (by omega) ?_
  intro k hk R hR
  simp -implicitDefEqProofs only [go_sem, reduceIte, Nat.reduceAdd, Nat.reduceSub, Nat.reduceMul, Nat.reduceLT, Nat.reduceLeDiff, Nat.reduceEqDiff, Nat.reduceBEq, Int.reduceLE, Int.reduceLT, Int.reduceToNat, Int.reduceMul, Int.reduceAdd, Int.reduceSub, Int.reduceNeg, Int.reduceEq, reduceCtorEq, Nat.reduceMod, recsT_length]
  refine wcond_mk (fun h => ?_) (fun h => ?_)
  · have hk' : k < l.length := by have := of_decide_eq_true h; omega
    simp -implicitDefEqProofs only [go_sem, reduceIte, Nat.reduceAdd, Nat.reduceSub, Nat.reduceMul, Nat.reduceLT, Nat.reduceLeDiff, Nat.reduceEqDiff, Nat.reduceBEq, Int.reduceLE, Int.reduceLT, Int.reduceToNat, Int.reduceMul, Int.reduceAdd, Int.reduceSub, Int.reduceNeg, Int.reduceEq, reduceCtorEq, Nat.reduceMod, recsT_get hk', recsT_length, Rec.cells]
    refine call_k (s_ref03_Valid l[k]) ?_ (by simp -implicitDefEqProofs only [go_sem, reduceIte, Nat.reduceAdd, Nat.reduceSub, Nat.reduceMul, Nat.reduceLT, Nat.reduceLeDiff, Nat.reduceEqDiff, Nat.reduceBEq, Int.reduceLE, Int.reduceLT, Int.reduceToNat, Int.reduceMul, Int.reduceAdd, Int.reduceSub, Int.reduceNeg, Int.reduceEq, reduceCtorEq, Nat.reduceMod, Rec.cells])
    obtain ⟨g0, g1, g2⟩ := allOk_get ‹_› hk'
    have hv := l[k].ok_iff.2 ⟨g0, g1, g2⟩
    have hlt : refN l k ≤ 20001 := Nat.min_le_right _ _
    have w1 : IntKind.i64.wrap ((refN l k : Int) + 12) = ((refN l k + 12 : Nat) : Int) := by rw [wrap_i64_id (by omega) (by omega)]; omega
    have w2 : IntKind.i64.wrap (((refN l k + 12 : Nat) : Int) + (l[k].data.length : Int)) = ((refN l k + 12 + l[k].data.length : Nat) : Int) := by rw [wrap_i64_id (by omega) (by omega)]; omega
    simp -implicitDefEqProofs only [go_sem, reduceIte, Nat.reduceAdd, Nat.reduceSub, Nat.reduceMul, Nat.reduceLT, Nat.reduceLeDiff, Nat.reduceEqDiff, Nat.reduceBEq, Int.reduceLE, Int.reduceLT, Int.reduceToNat, Int.reduceMul, Int.reduceAdd, Int.reduceSub, Int.reduceNeg, Int.reduceEq, reduceCtorEq, Nat.reduceMod, hv, recsT_get hk', recsT_length, Rec.cells, w1, w2, refN_min hk']
    refine hR (k + 1) _ ?_ (by omega) (by omega)
    simp -implicitDefEqProofs only [go_sem, reduceIte, Nat.reduceAdd, Nat.reduceSub, Nat.reduceMul, Nat.reduceLT, Nat.reduceLeDiff, Nat.reduceEqDiff, Nat.reduceBEq, Int.reduceLE, Int.reduceLT, Int.reduceToNat, Int.reduceMul, Int.reduceAdd, Int.reduceSub, Int.reduceNeg, Int.reduceEq, reduceCtorEq, Nat.reduceMod, wrap_i64_id (show -9223372036854775808 ≤ (k : Int) + 1 by omega) (by omega), Int.natCast_add]
    rfl
  · have hk' : ¬ k < l.length := by have := of_decide_eq_false h; omega
    obtain rfl : k = l.length := by omega
    have h1 : ((refN l l.length : Int) > 20000) = False := eq_false (by unfold refN; rw [List.take_length]; omega)
    simp -implicitDefEqProofs only [go_sem, reduceIte, Nat.reduceAdd, Nat.reduceSub, Nat.reduceMul, Nat.reduceLT, Nat.reduceLeDiff, Nat.reduceEqDiff, Nat.reduceBEq, Int.reduceLE, Int.reduceLT, Int.reduceToNat, Int.reduceMul, Int.reduceAdd, Int.reduceSub, Int.reduceNeg, Int.reduceEq, reduceCtorEq, Nat.reduceMod, h1]
    refine loop_l (α := Nat) (fun k => ⟨tmL [(0, .t (.sl (recsT l)) false), (6, .row 0 k 0 (catR (l.take k)).length), (7, .t (.i .i64 k) true)], [.row k 1 (bT (catR (l.take k))) true]⟩) (fun k => l.length - k) (fun k => k ≤ l.length) 0 (by simp -implicitDefEqProofs only [go_sem, reduceIte, Nat.reduceAdd, Nat.reduceSub, Nat.reduceMul, Nat.reduceLT, Nat.reduceLeDiff, Nat.reduceEqDiff, Nat.reduceBEq, Int.reduceLE, Int.reduceLT, Int.reduceToNat, Int.reduceMul, Int.reduceAdd, Int.reduceSub, Int.reduceNeg, Int.reduceEq, reduceCtorEq, Nat.reduceMod]; rfl) (by omega) ?_
    intro k hk R hR
    simp -implicitDefEqProofs only [go_sem, reduceIte, Nat.reduceAdd, Nat.reduceSub, Nat.reduceMul, Nat.reduceLT, Nat.reduceLeDiff, Nat.reduceEqDiff, Nat.reduceBEq, Int.reduceLE, Int.reduceLT, Int.reduceToNat, Int.reduceMul, Int.reduceAdd, Int.reduceSub, Int.reduceNeg, Int.reduceEq, reduceCtorEq, Nat.reduceMod, recsT_length]
    refine wcond_mk (fun h => ?_) (fun h => ?_)
    · have hk' : k < l.length := by have := of_decide_eq_true h; omega
      obtain ⟨g0, g1, g2⟩ := allOk_get ‹_› hk'
      simp -implicitDefEqProofs only [go_sem, reduceIte, Nat.reduceAdd, Nat.reduceSub, Nat.reduceMul, Nat.reduceLT, Nat.reduceLeDiff, Nat.reduceEqDiff, Nat.reduceBEq, Int.reduceLE, Int.reduceLT, Int.reduceToNat, Int.reduceMul, Int.reduceAdd, Int.reduceSub, Int.reduceNeg, Int.reduceEq, reduceCtorEq, Nat.reduceMod, recsT_get hk', recsT_length, Rec.cells]
      refine call_k (s_ref03_Bytes l[k] g0 g1 g2) ?_ (by simp -implicitDefEqProofs only [go_sem, reduceIte, Nat.reduceAdd, Nat.reduceSub, Nat.reduceMul, Nat.reduceLT, Nat.reduceLeDiff, Nat.reduceEqDiff, Nat.reduceBEq, Int.reduceLE, Int.reduceLT, Int.reduceToNat, Int.reduceMul, Int.reduceAdd, Int.reduceSub, Int.reduceNeg, Int.reduceEq, reduceCtorEq, Nat.reduceMod, Rec.cells])
      have hs := catR_step hk'
      have hle := catR_le l (k + 1)
      rw [hs, List.length_append] at hle
      simp -implicitDefEqProofs only [go_sem, reduceIte, Nat.reduceAdd, Nat.reduceSub, Nat.reduceMul, Nat.reduceLT, Nat.reduceLeDiff, Nat.reduceEqDiff, Nat.reduceBEq, Int.reduceLE, Int.reduceLT, Int.reduceToNat, Int.reduceMul, Int.reduceAdd, Int.reduceSub, Int.reduceNeg, Int.reduceEq, reduceCtorEq, Nat.reduceMod, bT_take_self]
      refine ⟨⟨okEs_bT _, by unfold room; omega⟩, hR (k + 1) _ ?_ (by omega) (by omega)⟩
      simp -implicitDefEqProofs only [go_sem, reduceIte, Nat.reduceAdd, Nat.reduceSub, Nat.reduceMul, Nat.reduceLT, Nat.reduceLeDiff, Nat.reduceEqDiff, Nat.reduceBEq, Int.reduceLE, Int.reduceLT, Int.reduceToNat, Int.reduceMul, Int.reduceAdd, Int.reduceSub, Int.reduceNeg, Int.reduceEq, reduceCtorEq, Nat.reduceMod, wrap_i64_id (show -9223372036854775808 ≤ (k : Int) + 1 by omega) (by omega), Int.natCast_add]
      rw [← bT_append, ← List.length_append, ← hs]
      rfl
    · have hk' : ¬ k < l.length := by have := of_decide_eq_false h; omega
      obtain rfl : k = l.length := by omega
      simp -implicitDefEqProofs only [go_sem, reduceIte, Nat.reduceAdd, Nat.reduceSub, Nat.reduceMul, Nat.reduceLT, Nat.reduceLeDiff, Nat.reduceEqDiff, Nat.reduceBEq, Int.reduceLE, Int.reduceLT, Int.reduceToNat, Int.reduceMul, Int.reduceAdd, Int.reduceSub, Int.reduceNeg, Int.reduceEq, reduceCtorEq, Nat.reduceMod, List.take_length]
      refine ends_mk [0] ?_ ?_
      · simp -implicitDefEqProofs only [go_sem, reduceIte, Nat.reduceAdd, Nat.reduceSub, Nat.reduceMul, Nat.reduceLT, Nat.reduceLeDiff, Nat.reduceEqDiff, Nat.reduceBEq, Int.reduceLE, Int.reduceLT, Int.reduceToNat, Int.reduceMul, Int.reduceAdd, Int.reduceSub, Int.reduceNeg, Int.reduceEq, reduceCtorEq, Nat.reduceMod]
        exact bT_take_self _
      · simp -implicitDefEqProofs only [go_sem, reduceIte, Nat.reduceAdd, Nat.reduceSub, Nat.reduceMul, Nat.reduceLT, Nat.reduceLeDiff, Nat.reduceEqDiff, Nat.reduceBEq, Int.reduceLE, Int.reduceLT, Int.reduceToNat, Int.reduceMul, Int.reduceAdd, Int.reduceSub, Int.reduceNeg, Int.reduceEq, reduceCtorEq, Nat.reduceMod]
end Go.Proofs.Ytadnjellfiafaaa.Pm
