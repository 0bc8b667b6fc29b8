/- crc and its reference: what each function returns. No law of Go's is stated here. -/
import Derived.Test.YtadnjellfiafaaaPmCr
set_option linter.all false
set_option maxRecDepth 100000
namespace Go.Proofs.Ytadnjellfiafaaa.Pm
open Go Go.RowKit

theorem s_ref02_Step (r b : BitVec 32) : Spec Try.prog 60 [.i .u32 r.toNat, .i .u32 b.toNat] [] (.t (.i .u32 (stepR r b).toNat) true) := by
  refine spec_k (hold mixed) b_ref02_Step [(.i .u32 (stepR r b).toNat, true)] ?_
  simp -implicitDefEqProofs only [go_sem, reduceIte, Nat.reduceAdd, Nat.reduceSub, Nat.reduceMul, Nat.reduceLT, Nat.reduceLeDiff, Nat.reduceEqDiff, Nat.reduceBEq, Int.reduceLE, Int.reduceLT, Int.reduceToNat, Int.reduceMul, Int.reduceAdd, Int.reduceSub, Int.reduceNeg, Int.reduceEq, reduceCtorEq, Nat.reduceMod]
  have hiff : (((r ^^^ b) &&& BitVec.ofInt 32 1).toNat : Int) = 1 ↔ (r ^^^ b) &&& BitVec.ofInt 32 1 = BitVec.ofInt 32 1 := by
    refine ⟨fun h => BitVec.eq_of_toNat_eq ?_, fun e => by rw [e]; decide⟩
    rw [show (BitVec.ofInt 32 1).toNat = 1 by decide]
    omega
  refine wcond_mk (fun h => ?_) (fun h => ?_)
  · simp -implicitDefEqProofs only [go_sem, reduceIte, Nat.reduceAdd, Nat.reduceSub, Nat.reduceMul, Nat.reduceLT, Nat.reduceLeDiff, Nat.reduceEqDiff, Nat.reduceBEq, Int.reduceLE, Int.reduceLT, Int.reduceToNat, Int.reduceMul, Int.reduceAdd, Int.reduceSub, Int.reduceNeg, Int.reduceEq, reduceCtorEq, Nat.reduceMod]
    rw [stepR, if_pos (hiff.1 (eq_of_beq h))]
    rfl
  · simp -implicitDefEqProofs only [go_sem, reduceIte, Nat.reduceAdd, Nat.reduceSub, Nat.reduceMul, Nat.reduceLT, Nat.reduceLeDiff, Nat.reduceEqDiff, Nat.reduceBEq, Int.reduceLE, Int.reduceLT, Int.reduceToNat, Int.reduceMul, Int.reduceAdd, Int.reduceSub, Int.reduceNeg, Int.reduceEq, reduceCtorEq, Nat.reduceMod]
    rw [stepR, if_neg (fun e => ne_of_beq_false h (hiff.2 e))]

theorem s_ref02_Byte (r : BitVec 32) (b : BitVec 8) : Spec Try.prog 46 [.i .u32 r.toNat, .i .u8 b.toNat] [] (.t (.i .u32 (byteR r b).toNat) true) := by
  refine spec_k (hold mixed) b_ref02_Byte [(.i .u32 (byteR r b).toNat, true)] ?_
  simp -implicitDefEqProofs only [go_sem, reduceIte, Nat.reduceAdd, Nat.reduceSub, Nat.reduceMul, Nat.reduceLT, Nat.reduceLeDiff, Nat.reduceEqDiff, Nat.reduceBEq, Int.reduceLE, Int.reduceLT, Int.reduceToNat, Int.reduceMul, Int.reduceAdd, Int.reduceSub, Int.reduceNeg, Int.reduceEq, reduceCtorEq, Nat.reduceMod]
  refine loop_l (α := Nat × BitVec 32) (fun p => ⟨tmL [(0, .t (.i .u32 p.2.toNat) true), (1, .t (.i .u8 b.toNat) true), (5, .t (.i .i64 p.1) true)], []⟩) (fun p => 8 - p.1) (fun p => p.1 ≤ 8 ∧ bitsR b (8 - p.1) p.1 p.2 = byteR r b) (0, r) (by simp -implicitDefEqProofs only [go_sem, reduceIte, Nat.reduceAdd, Nat.reduceSub, Nat.reduceMul, Nat.reduceLT, Nat.reduceLeDiff, Nat.reduceEqDiff, Nat.reduceBEq, Int.reduceLE, Int.reduceLT, Int.reduceToNat, Int.reduceMul, Int.reduceAdd, Int.reduceSub, Int.reduceNeg, Int.reduceEq, reduceCtorEq, Nat.reduceMod]; rfl) ⟨by omega, rfl⟩ ?_
  rintro ⟨k, y⟩ ⟨hk, hy⟩ R hR
  simp only at hk hy
  simp -implicitDefEqProofs only [go_sem, reduceIte, Nat.reduceAdd, Nat.reduceSub, Nat.reduceMul, Nat.reduceLT, Nat.reduceLeDiff, Nat.reduceEqDiff, Nat.reduceBEq, Int.reduceLE, Int.reduceLT, Int.reduceToNat, Int.reduceMul, Int.reduceAdd, Int.reduceSub, Int.reduceNeg, Int.reduceEq, reduceCtorEq, Nat.reduceMod]
  refine wcond_mk (fun h => ?_) (fun h => ?_)
  · have hk' : k < 8 := by have := of_decide_eq_true h; omega
    simp -implicitDefEqProofs only [go_sem, reduceIte, Nat.reduceAdd, Nat.reduceSub, Nat.reduceMul, Nat.reduceLT, Nat.reduceLeDiff, Nat.reduceEqDiff, Nat.reduceBEq, Int.reduceLE, Int.reduceLT, Int.reduceToNat, Int.reduceMul, Int.reduceAdd, Int.reduceSub, Int.reduceNeg, Int.reduceEq, reduceCtorEq, Nat.reduceMod, Nat.min_eq_left (show k ≤ 32 by omega)]
    refine call_k (s_ref02_Step y (bitR b k)) ?_ (by simp -implicitDefEqProofs only [go_sem, reduceIte, Nat.reduceAdd, Nat.reduceSub, Nat.reduceMul, Nat.reduceLT, Nat.reduceLeDiff, Nat.reduceEqDiff, Nat.reduceBEq, Int.reduceLE, Int.reduceLT, Int.reduceToNat, Int.reduceMul, Int.reduceAdd, Int.reduceSub, Int.reduceNeg, Int.reduceEq, reduceCtorEq, Nat.reduceMod]; rfl)
    simp -implicitDefEqProofs only [go_sem, reduceIte, Nat.reduceAdd, Nat.reduceSub, Nat.reduceMul, Nat.reduceLT, Nat.reduceLeDiff, Nat.reduceEqDiff, Nat.reduceBEq, Int.reduceLE, Int.reduceLT, Int.reduceToNat, Int.reduceMul, Int.reduceAdd, Int.reduceSub, Int.reduceNeg, Int.reduceEq, reduceCtorEq, Nat.reduceMod]
    refine hR (k + 1, stepR y (bitR b k)) _ ?_ ⟨by simp only; omega, ?_⟩ (by simp only; omega)
    · simp -implicitDefEqProofs only [go_sem, reduceIte, Nat.reduceAdd, Nat.reduceSub, Nat.reduceMul, Nat.reduceLT, Nat.reduceLeDiff, Nat.reduceEqDiff, Nat.reduceBEq, Int.reduceLE, Int.reduceLT, Int.reduceToNat, Int.reduceMul, Int.reduceAdd, Int.reduceSub, Int.reduceNeg, Int.reduceEq, reduceCtorEq, Nat.reduceMod, wrap_i64_id (show -9223372036854775808 ≤ (k : Int) + 1 by omega) (by omega), Int.natCast_add]
      rfl
    · simp only
      rw [← hy, show 8 - k = (8 - (k + 1)) + 1 by omega]
      rfl
  · have hk' : ¬ k < 8 := by have := of_decide_eq_false h; omega
    obtain rfl : k = 8 := by omega
    simp -implicitDefEqProofs only [go_sem, reduceIte, Nat.reduceAdd, Nat.reduceSub, Nat.reduceMul, Nat.reduceLT, Nat.reduceLeDiff, Nat.reduceEqDiff, Nat.reduceBEq, Int.reduceLE, Int.reduceLT, Int.reduceToNat, Int.reduceMul, Int.reduceAdd, Int.reduceSub, Int.reduceNeg, Int.reduceEq, reduceCtorEq, Nat.reduceMod]
    rw [← hy]
    rfl

theorem s_ref02_Bytes (r : BitVec 32) (bs : List (BitVec 8)) (hl : bs.length ≤ 21000) : Spec Try.prog 44 [.i .u32 r.toNat, .sl (bT bs)] [] (.t (.i .u32 (bytesR r bs).toNat) true) := by
  refine spec_k (hold mixed) b_ref02_Bytes [(.i .u32 (bytesR r bs).toNat, true)] ?_
  simp -implicitDefEqProofs only [go_sem, reduceIte, Nat.reduceAdd, Nat.reduceSub, Nat.reduceMul, Nat.reduceLT, Nat.reduceLeDiff, Nat.reduceEqDiff, Nat.reduceBEq, Int.reduceLE, Int.reduceLT, Int.reduceToNat, Int.reduceMul, Int.reduceAdd, Int.reduceSub, Int.reduceNeg, Int.reduceEq, reduceCtorEq, Nat.reduceMod]
  refine loop_l (α := Nat × BitVec 32) (fun p => ⟨tmL [(0, .t (.i .u32 p.2.toNat) true), (1, .t (.sl (bT bs)) false), (5, .t (.i .i64 p.1) true)], []⟩) (fun p => bs.length - p.1) (fun p => p.1 ≤ bs.length ∧ bytesR p.2 (bs.drop p.1) = bytesR r bs) (0, r) (by simp -implicitDefEqProofs only [go_sem, reduceIte, Nat.reduceAdd, Nat.reduceSub, Nat.reduceMul, Nat.reduceLT, Nat.reduceLeDiff, Nat.reduceEqDiff, Nat.reduceBEq, Int.reduceLE, Int.reduceLT, Int.reduceToNat, Int.reduceMul, Int.reduceAdd, Int.reduceSub, Int.reduceNeg, Int.reduceEq, reduceCtorEq, Nat.reduceMod]; rfl) ⟨by omega, rfl⟩ ?_
  rintro ⟨k, y⟩ ⟨hk, hy⟩ R hR
  simp only at hk hy
  simp -implicitDefEqProofs only [go_sem, reduceIte, Nat.reduceAdd, Nat.reduceSub, Nat.reduceMul, Nat.reduceLT, Nat.reduceLeDiff, Nat.reduceEqDiff, Nat.reduceBEq, Int.reduceLE, Int.reduceLT, Int.reduceToNat, Int.reduceMul, Int.reduceAdd, Int.reduceSub, Int.reduceNeg, Int.reduceEq, reduceCtorEq, Nat.reduceMod]
  refine wcond_mk (fun h => ?_) (fun h => ?_)
  · have hk' : k < bs.length := by have := of_decide_eq_true h; omega
    simp -implicitDefEqProofs only [go_sem, reduceIte, Nat.reduceAdd, Nat.reduceSub, Nat.reduceMul, Nat.reduceLT, Nat.reduceLeDiff, Nat.reduceEqDiff, Nat.reduceBEq, Int.reduceLE, Int.reduceLT, Int.reduceToNat, Int.reduceMul, Int.reduceAdd, Int.reduceSub, Int.reduceNeg, Int.reduceEq, reduceCtorEq, Nat.reduceMod, bT_get hk']
    refine call_k (s_ref02_Byte y bs[k]) ?_
    simp -implicitDefEqProofs only [go_sem, reduceIte, Nat.reduceAdd, Nat.reduceSub, Nat.reduceMul, Nat.reduceLT, Nat.reduceLeDiff, Nat.reduceEqDiff, Nat.reduceBEq, Int.reduceLE, Int.reduceLT, Int.reduceToNat, Int.reduceMul, Int.reduceAdd, Int.reduceSub, Int.reduceNeg, Int.reduceEq, reduceCtorEq, Nat.reduceMod]
    refine hR (k + 1, byteR y bs[k]) _ ?_ ⟨by simp only; omega, ?_⟩ (by simp only; omega)
    · simp -implicitDefEqProofs only [go_sem, reduceIte, Nat.reduceAdd, Nat.reduceSub, Nat.reduceMul, Nat.reduceLT, Nat.reduceLeDiff, Nat.reduceEqDiff, Nat.reduceBEq, Int.reduceLE, Int.reduceLT, Int.reduceToNat, Int.reduceMul, Int.reduceAdd, Int.reduceSub, Int.reduceNeg, Int.reduceEq, reduceCtorEq, Nat.reduceMod, wrap_i64_id (show -9223372036854775808 ≤ (k : Int) + 1 by omega) (by omega), Int.natCast_add]
      rfl
    · simp only
      rw [← hy, List.drop_eq_getElem_cons hk']
      rfl
  · have hk' : ¬ k < bs.length := by have := of_decide_eq_false h; omega
    obtain rfl : k = bs.length := by omega
    simp -implicitDefEqProofs only [go_sem, reduceIte, Nat.reduceAdd, Nat.reduceSub, Nat.reduceMul, Nat.reduceLT, Nat.reduceLeDiff, Nat.reduceEqDiff, Nat.reduceBEq, Int.reduceLE, Int.reduceLT, Int.reduceToNat, Int.reduceMul, Int.reduceAdd, Int.reduceSub, Int.reduceNeg, Int.reduceEq, reduceCtorEq, Nat.reduceMod]
    rw [← hy, List.drop_length]
    rfl

/-- The table, so far. -/
def tabN (k : Nat) : List T := (List.range 256).map fun j => .i .u32 ((if j < k then rowL (BitVec.ofNat 32 j) else 0#32).toNat)
def tabC (k : Nat) : List AV := (tabN k).map (AV.t · true)
theorem tabN_length (k : Nat) : (tabN k).length = 256 := by simp [tabN]
theorem tabC_length (k : Nat) : (tabC k).length = 256 := by simp [tabC, tabN_length]
theorem tabN_get (k : Nat) {j : Nat} (h : j < 256) : (tabN k)[j]? = some (.i .u32 ((if j < k then rowL (BitVec.ofNat 32 j) else 0#32).toNat)) := by simp [tabN, h]
theorem tabC_zero : List.replicate 256 (AV.t (.i .u32 0) true) = tabC 0 := by
  apply List.ext_getElem?
  intro j
  simp only [tabC, List.getElem?_map, List.getElem?_replicate]
  by_cases h : j < 256
  · rw [tabN_get 0 h]; simp [h]
  · rw [if_neg h, List.getElem?_eq_none (by rw [tabN_length]; omega)]; rfl
theorem tabC_set {k : Nat} (h : k < 256) : setAt (tabC k) k [.t (.i .u32 (rowL (BitVec.ofNat 32 k)).toNat) true] = tabC (k + 1) := by
  rw [setAt_one _ (by rw [tabC_length]; exact h)]
  apply List.ext_getElem?
  intro j
  by_cases hj : j < 256
  · by_cases e : k = j
    · subst e
      rw [List.getElem?_set_self (by rw [tabC_length]; exact h)]
      simp only [tabC, List.getElem?_map, tabN_get _ hj, Option.map_some]
      simp
    · rw [List.getElem?_set_ne e]
      simp only [tabC, List.getElem?_map, tabN_get _ hj, Option.map_some]
      by_cases e2 : j < k
      · rw [if_pos e2, if_pos (by omega)]
      · rw [if_neg e2, if_neg (by omega)]
  · rw [List.getElem?_eq_none (by simp [tabC_length]; omega), List.getElem?_eq_none (by rw [tabC_length]; omega)]
theorem embs_ts (h : H) : ∀ (xs : List T), embs h (xs.map (AV.t · true)) = some (xs, true, [])
  | [] => rfl
  | x :: xs => by simp [embs, emb, embs_ts h xs]
theorem tabC_embs (h : H) (k : Nat) : embs h (tabC k) = some (tabN k, true, []) := embs_ts h _
theorem tabC_one (k : Nat) : (∀ v ∈ tabC k, v.one) = True := by
  apply eq_true
  intro v hv
  simp only [tabC, tabN, List.mem_map] at hv
  obtain ⟨_, ⟨j, _, rfl⟩, rfl⟩ := hv
  trivial
theorem setAt_tab (j k : Nat) : setAt (tabC j) 0 (tabC k) = tabC k := setAt_all _ (by rw [tabC_length, tabC_length])
theorem tabC_take (k : Nat) : (tabC k).take 256 = tabC k := List.take_of_length_le (by rw [tabC_length]; exact Nat.le_refl _)
theorem cutB_tab (m k : Nat) (h : H) : varB m ((tabC k).map (toT1 m h)) = .var (tabC k) := by
  have e : (tabC k).map (toT1 m h) = tabC k := by
    have : ∀ (xs : List T), (xs.map (AV.t · true)).map (toT1 m h) = xs.map (AV.t · true) := fun xs => by
      rw [List.map_map]
      rfl
    exact this _
  rw [e]
  have : (tabC k).all (below m) = true := by
    rw [List.all_eq_true]
    intro v hv
    simp only [tabC, tabN, List.mem_map] at hv
    obtain ⟨_, ⟨j, _, rfl⟩, rfl⟩ := hv
    rfl
  simp only [varB, this, if_true]
theorem tab_get {n : Nat} (h : n < 256) : (tabC 256)[n]? = some (.t (.i .u32 (rowL (BitVec.ofNat 32 n)).toNat) true) := by
  simp only [tabC, List.getElem?_map, tabN_get _ h, Option.map_some, if_pos h]
theorem tab_fold (k : Nat) : List.map (fun x => AV.t x true) (tabN k) = tabC k := rfl
theorem bv8_lt (x : BitVec 8) : (((x.toNat : Nat) : Int) < ((256 : Nat) : Int)) = True := eq_true (by have := x.isLt; omega)
theorem tab_get8 (x : BitVec 8) : (tabC 256)[x.toNat]? = some (.t (.i .u32 (rowL (x.setWidth 32)).toNat) true) := by
  rw [tab_get x.isLt, BitVec.ofNat_toNat]

theorem tabC_set2 {k : Nat} (h : k < 256) : List.take k (tabC k) ++ [.t (.i .u32 (rowL (BitVec.ofNat 32 k)).toNat) true] ++ List.drop (k + 1) (tabC k) = tabC (k + 1) := tabC_set h
theorem tab_drop (k : Nat) : List.drop 256 (tabC k) = [] := List.drop_of_length_le (by rw [tabC_length]; exact Nat.le_refl _)
theorem s_crc_table : Spec Try.prog 59 [] [] (.t (.agg (tabN 256)) true) := by
  refine spec_k (hold mixed) b_crc_table [(.agg (tabN 256), true)] ?_
  simp -implicitDefEqProofs only [go_sem, reduceIte, Nat.reduceAdd, Nat.reduceSub, Nat.reduceMul, Nat.reduceLT, Nat.reduceLeDiff, Nat.reduceEqDiff, Nat.reduceBEq, Int.reduceLE, Int.reduceLT, Int.reduceToNat, Int.reduceMul, Int.reduceAdd, Int.reduceSub, Int.reduceNeg, Int.reduceEq, reduceCtorEq, Nat.reduceMod, tabC_zero]
  refine loop_l (α := Nat) (fun k => ⟨tmL [(0, .ptr 0 0), (2, .t (.i .i64 k) true)], [.var (tabC k)]⟩) (fun k => 256 - k) (fun k => k ≤ 256) 0 (by simp -implicitDefEqProofs only [go_sem, reduceIte, Nat.reduceAdd, Nat.reduceSub, Nat.reduceMul, Nat.reduceLT, Nat.reduceLeDiff, Nat.reduceEqDiff, Nat.reduceBEq, Int.reduceLE, Int.reduceLT, Int.reduceToNat, Int.reduceMul, Int.reduceAdd, Int.reduceSub, Int.reduceNeg, Int.reduceEq, reduceCtorEq, Nat.reduceMod, cutB_tab]; rfl) (by omega) ?_
  rintro k hk R hR
  simp -implicitDefEqProofs only [go_sem, reduceIte, Nat.reduceAdd, Nat.reduceSub, Nat.reduceMul, Nat.reduceLT, Nat.reduceLeDiff, Nat.reduceEqDiff, Nat.reduceBEq, Int.reduceLE, Int.reduceLT, Int.reduceToNat, Int.reduceMul, Int.reduceAdd, Int.reduceSub, Int.reduceNeg, Int.reduceEq, reduceCtorEq, Nat.reduceMod]
  refine wcond_mk (fun h => ?_) (fun h => ?_)
  · have hk' : k < 256 := by have := of_decide_eq_true h; omega
    simp -implicitDefEqProofs only [go_sem, reduceIte, Nat.reduceAdd, Nat.reduceSub, Nat.reduceMul, Nat.reduceLT, Nat.reduceLeDiff, Nat.reduceEqDiff, Nat.reduceBEq, Int.reduceLE, Int.reduceLT, Int.reduceToNat, Int.reduceMul, Int.reduceAdd, Int.reduceSub, Int.reduceNeg, Int.reduceEq, reduceCtorEq, Nat.reduceMod, wrap_nat32 k]
    refine call_k (s_crc_row (BitVec.ofNat 32 k)) ?_
    simp -implicitDefEqProofs only [go_sem, reduceIte, Nat.reduceAdd, Nat.reduceSub, Nat.reduceMul, Nat.reduceLT, Nat.reduceLeDiff, Nat.reduceEqDiff, Nat.reduceBEq, Int.reduceLE, Int.reduceLT, Int.reduceToNat, Int.reduceMul, Int.reduceAdd, Int.reduceSub, Int.reduceNeg, Int.reduceEq, reduceCtorEq, Nat.reduceMod, tabC_length, AV.one, T.one, Nat.mul_one, tabC_set hk', Nat.succ_le_of_lt hk']
    refine ⟨by omega, hR (k + 1) _ ?_ (by omega) (by omega)⟩
    simp -implicitDefEqProofs only [go_sem, reduceIte, Nat.reduceAdd, Nat.reduceSub, Nat.reduceMul, Nat.reduceLT, Nat.reduceLeDiff, Nat.reduceEqDiff, Nat.reduceBEq, Int.reduceLE, Int.reduceLT, Int.reduceToNat, Int.reduceMul, Int.reduceAdd, Int.reduceSub, Int.reduceNeg, Int.reduceEq, reduceCtorEq, Nat.reduceMod, wrap_i64_id (show -9223372036854775808 ≤ (k : Int) + 1 by omega) (by omega), Int.natCast_add, tabC_set2 hk', cutB_tab]
    rfl
  · have hk' : ¬ k < 256 := by have := of_decide_eq_false h; omega
    obtain rfl : k = 256 := by omega
    simp -implicitDefEqProofs only [go_sem, reduceIte, Nat.reduceAdd, Nat.reduceSub, Nat.reduceMul, Nat.reduceLT, Nat.reduceLeDiff, Nat.reduceEqDiff, Nat.reduceBEq, Int.reduceLE, Int.reduceLT, Int.reduceToNat, Int.reduceMul, Int.reduceAdd, Int.reduceSub, Int.reduceNeg, Int.reduceEq, reduceCtorEq, Nat.reduceMod, tabC_length, tabC_one, tabC_take, tab_drop, tabC_embs]

theorem s_crc_run (r : BitVec 32) (bs : List (BitVec 8)) (hl : bs.length ≤ 21000) : Spec Try.prog 43 [.i .u32 r.toNat, .sl [[.sl (bT bs)]]] [] (.t (.i .u32 (runL r bs).toNat) true) := by
  refine spec_k (hold mixed) b_crc_run [(.i .u32 (runL r bs).toNat, true)] ?_
  simp -implicitDefEqProofs only [go_sem, reduceIte, Nat.reduceAdd, Nat.reduceSub, Nat.reduceMul, Nat.reduceLT, Nat.reduceLeDiff, Nat.reduceEqDiff, Nat.reduceBEq, Int.reduceLE, Int.reduceLT, Int.reduceToNat, Int.reduceMul, Int.reduceAdd, Int.reduceSub, Int.reduceNeg, Int.reduceEq, reduceCtorEq, Nat.reduceMod]
  refine call_k s_crc_table ?_
  simp -implicitDefEqProofs only [go_sem, reduceIte, Nat.reduceAdd, Nat.reduceSub, Nat.reduceMul, Nat.reduceLT, Nat.reduceLeDiff, Nat.reduceEqDiff, Nat.reduceBEq, Int.reduceLE, Int.reduceLT, Int.reduceToNat, Int.reduceMul, Int.reduceAdd, Int.reduceSub, Int.reduceNeg, Int.reduceEq, reduceCtorEq, Nat.reduceMod, tab_fold, tabC_zero, tabC_length, tabC_one, tab_drop]
  refine loop_l (α := Nat × BitVec 32) (fun p => ⟨tmL [(0, .t (.i .u32 p.2.toNat) true), (5, .ptr 0 0), (11, .t (.sl [[.sl (bT bs)]]) false), (12, .t (.i .i64 1) true), (13, .t (.i .i64 p.1) true)], [.var (tabC 256)]⟩) (fun p => 1 - p.1)
    (fun p => (p.1 = 0 ∧ p.2 = r) ∨ (p.1 = 1 ∧ p.2 = runL r bs)) (0, r) (by simp -implicitDefEqProofs only [go_sem, reduceIte, Nat.reduceAdd, Nat.reduceSub, Nat.reduceMul, Nat.reduceLT, Nat.reduceLeDiff, Nat.reduceEqDiff, Nat.reduceBEq, Int.reduceLE, Int.reduceLT, Int.reduceToNat, Int.reduceMul, Int.reduceAdd, Int.reduceSub, Int.reduceNeg, Int.reduceEq, reduceCtorEq, Nat.reduceMod, cutB_tab]; rfl) (.inl ⟨rfl, rfl⟩) ?_
  rintro ⟨k, y⟩ hG R hR
  simp only at hG
  rcases hG with ⟨rfl, rfl⟩ | ⟨rfl, rfl⟩
  · simp -implicitDefEqProofs only [go_sem, reduceIte, Nat.reduceAdd, Nat.reduceSub, Nat.reduceMul, Nat.reduceLT, Nat.reduceLeDiff, Nat.reduceEqDiff, Nat.reduceBEq, Int.reduceLE, Int.reduceLT, Int.reduceToNat, Int.reduceMul, Int.reduceAdd, Int.reduceSub, Int.reduceNeg, Int.reduceEq, reduceCtorEq, Nat.reduceMod, Int.ofNat_zero, Int.cast_ofNat_Int, Int.natCast_zero, Int.zero_lt_one]
    refine loop_l (α := Nat × BitVec 32) (fun p => ⟨tmL [(0, .t (.i .u32 p.2.toNat) true), (5, .ptr 0 0), (11, .t (.sl [[.sl (bT bs)]]) false), (12, .t (.i .i64 1) true), (13, .t (.i .i64 0) true), (17, .t (.sl (bT bs)) false), (18, .t (.i .i64 bs.length) true), (19, .t (.i .i64 p.1) true)], [.var (tabC 256)]⟩) (fun p => bs.length - p.1)
      (fun p => p.1 ≤ bs.length ∧ runL p.2 (bs.drop p.1) = runL y bs) (0, y) (by simp -implicitDefEqProofs only [go_sem, reduceIte, Nat.reduceAdd, Nat.reduceSub, Nat.reduceMul, Nat.reduceLT, Nat.reduceLeDiff, Nat.reduceEqDiff, Nat.reduceBEq, Int.reduceLE, Int.reduceLT, Int.reduceToNat, Int.reduceMul, Int.reduceAdd, Int.reduceSub, Int.reduceNeg, Int.reduceEq, reduceCtorEq, Nat.reduceMod, cutB_tab]; rfl) ⟨by omega, rfl⟩ ?_
    rintro ⟨k, z⟩ ⟨hk, hz⟩ R' hR'
    simp only at hk hz
    simp -implicitDefEqProofs only [go_sem, reduceIte, Nat.reduceAdd, Nat.reduceSub, Nat.reduceMul, Nat.reduceLT, Nat.reduceLeDiff, Nat.reduceEqDiff, Nat.reduceBEq, Int.reduceLE, Int.reduceLT, Int.reduceToNat, Int.reduceMul, Int.reduceAdd, Int.reduceSub, Int.reduceNeg, Int.reduceEq, reduceCtorEq, Nat.reduceMod]
    refine wcond_mk (fun h => ?_) (fun h => ?_)
    · have hk' : k < bs.length := by have := of_decide_eq_true h; omega
      simp -implicitDefEqProofs only [go_sem, reduceIte, Nat.reduceAdd, Nat.reduceSub, Nat.reduceMul, Nat.reduceLT, Nat.reduceLeDiff, Nat.reduceEqDiff, Nat.reduceBEq, Int.reduceLE, Int.reduceLT, Int.reduceToNat, Int.reduceMul, Int.reduceAdd, Int.reduceSub, Int.reduceNeg, Int.reduceEq, reduceCtorEq, Nat.reduceMod, bT_get hk', tabC_length, bv8_lt, tab_get8, Nat.mul_one]
      refine hR' (k + 1, byteL z bs[k]) _ ?_ ⟨by simp only; omega, ?_⟩ (by simp only; omega)
      · simp -implicitDefEqProofs only [go_sem, reduceIte, Nat.reduceAdd, Nat.reduceSub, Nat.reduceMul, Nat.reduceLT, Nat.reduceLeDiff, Nat.reduceEqDiff, Nat.reduceBEq, Int.reduceLE, Int.reduceLT, Int.reduceToNat, Int.reduceMul, Int.reduceAdd, Int.reduceSub, Int.reduceNeg, Int.reduceEq, reduceCtorEq, Nat.reduceMod, wrap_i64_id (show -9223372036854775808 ≤ (k : Int) + 1 by omega) (by omega), Int.natCast_add, cutB_tab]
        rfl
      · simp only
        rw [← hz, List.drop_eq_getElem_cons hk']
        rfl
    · have hk' : ¬ k < bs.length := by have := of_decide_eq_false h; omega
      obtain rfl : k = bs.length := by omega
      simp -implicitDefEqProofs only [go_sem, reduceIte, Nat.reduceAdd, Nat.reduceSub, Nat.reduceMul, Nat.reduceLT, Nat.reduceLeDiff, Nat.reduceEqDiff, Nat.reduceBEq, Int.reduceLE, Int.reduceLT, Int.reduceToNat, Int.reduceMul, Int.reduceAdd, Int.reduceSub, Int.reduceNeg, Int.reduceEq, reduceCtorEq, Nat.reduceMod]
      refine hR (1, z) _ ?_ (.inr ⟨rfl, ?_⟩) (by simp only; omega)
      · simp -implicitDefEqProofs only [go_sem, reduceIte, Nat.reduceAdd, Nat.reduceSub, Nat.reduceMul, Nat.reduceLT, Nat.reduceLeDiff, Nat.reduceEqDiff, Nat.reduceBEq, Int.reduceLE, Int.reduceLT, Int.reduceToNat, Int.reduceMul, Int.reduceAdd, Int.reduceSub, Int.reduceNeg, Int.reduceEq, reduceCtorEq, Nat.reduceMod, cutB_tab]
        rfl
      · rw [← hz, List.drop_length]
        rfl
  · simp -implicitDefEqProofs only [go_sem, reduceIte, Nat.reduceAdd, Nat.reduceSub, Nat.reduceMul, Nat.reduceLT, Nat.reduceLeDiff, Nat.reduceEqDiff, Nat.reduceBEq, Int.reduceLE, Int.reduceLT, Int.reduceToNat, Int.reduceMul, Int.reduceAdd, Int.reduceSub, Int.reduceNeg, Int.reduceEq, reduceCtorEq, Nat.reduceMod, Int.cast_ofNat_Int, Int.lt_irrefl]
end Go.Proofs.Ytadnjellfiafaaa.Pm
