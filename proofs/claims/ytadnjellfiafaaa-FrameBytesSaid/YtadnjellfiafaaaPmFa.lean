/- frame: library functions. No law of Go's is stated here. -/
import Derived.Test.YtadnjellfiafaaaPmKc
import Derived.Test.YtadnjellfiafaaaPmCt
set_option linter.all false
set_option maxRecDepth 100000
namespace Go.Proofs.Ytadnjellfiafaaa.Pm
open Go Go.RowKit

theorem s_slices_Grow (n : Nat) (h0 : 0 < n) (hn : n ≤ 1000000) : Spec Try.prog 68 [.nl, .i .i64 n] [.row 0 1 [] true] (.row 0 0 0 0) := by
  refine spec_ko (hold mixed) b_slices_Grow [.row 0 1 [] true] [.row 0 0 0 0] ?_
  have h1 : ((n : Int) < 0) = False := eq_false (by omega)
  have h2 : ((n : Int) > 0) = True := eq_true (by omega)
  have h3 : IntKind.i64.wrap ((n : Int) - 0) = n := by rw [wrap_i64_id (by omega) (by omega)]; omega
  have h4 : IntKind.i64.wrap ((n : Int)) = n := by rw [wrap_i64_id (by omega) (by omega)]
  have h5 : IntKind.i64.wrap 0 = 0 := by decide
  simp -implicitDefEqProofs only [go_sem, reduceIte, Nat.reduceAdd, Nat.reduceSub, Nat.reduceMul, Nat.reduceLT, Nat.reduceLeDiff, Nat.reduceEqDiff, Nat.reduceBEq, Int.reduceLE, Int.reduceLT, Int.reduceToNat, Int.reduceMul, Int.reduceAdd, Int.reduceSub, Int.reduceNeg, Int.reduceEq, reduceCtorEq, Nat.reduceMod, h1, h2, h3, h4, h5, Int.natCast_zero]
  refine ⟨⟨by unfold room; omega, by unfold room; omega⟩, ends_mk [0] ?_ ?_⟩ <;> simp -implicitDefEqProofs only [go_sem, reduceIte, Nat.reduceAdd, Nat.reduceSub, Nat.reduceMul, Nat.reduceLT, Nat.reduceLeDiff, Nat.reduceEqDiff, Nat.reduceBEq, Int.reduceLE, Int.reduceLT, Int.reduceToNat, Int.reduceMul, Int.reduceAdd, Int.reduceSub, Int.reduceNeg, Int.reduceEq, reduceCtorEq, Nat.reduceMod]
theorem s_slices_Grow0 : Spec Try.prog 68 [.nl, .i .i64 0] [] .nl := by
  refine spec_ko (hold mixed) b_slices_Grow [] [.nl] ?_
  have h5 : IntKind.i64.wrap 0 = 0 := by decide
  simp -implicitDefEqProofs only [go_sem, reduceIte, Nat.reduceAdd, Nat.reduceSub, Nat.reduceMul, Nat.reduceLT, Nat.reduceLeDiff, Nat.reduceEqDiff, Nat.reduceBEq, Int.reduceLE, Int.reduceLT, Int.reduceToNat, Int.reduceMul, Int.reduceAdd, Int.reduceSub, Int.reduceNeg, Int.reduceEq, reduceCtorEq, Nat.reduceMod, h5, Int.natCast_zero, gt_iff_lt, Int.lt_irrefl]
  refine ends_mk [] ?_ ?_ <;> simp -implicitDefEqProofs only [go_sem, reduceIte, Nat.reduceAdd, Nat.reduceSub, Nat.reduceMul, Nat.reduceLT, Nat.reduceLeDiff, Nat.reduceEqDiff, Nat.reduceBEq, Int.reduceLE, Int.reduceLT, Int.reduceToNat, Int.reduceMul, Int.reduceAdd, Int.reduceSub, Int.reduceNeg, Int.reduceEq, reduceCtorEq, Nat.reduceMod]
/-- Lists of lists of bytes. -/
def catE (bss : List (List (BitVec 8))) : List (List T) := bss.map fun bs => [.sl (bT bs)]
def catL (bss : List (List (BitVec 8))) : Nat := bss.flatten.length
theorem catE_length (bss : List (List (BitVec 8))) : (catE bss).length = bss.length := by simp [catE]
theorem catE_get {bss : List (List (BitVec 8))} {k : Nat} (h : k < bss.length) : (catE bss)[k]? = some [.sl (bT bss[k])] := by simp [catE, h]
theorem flat_step {bss : List (List (BitVec 8))} {k : Nat} (h : k < bss.length) : (bss.take (k + 1)).flatten = (bss.take k).flatten ++ bss[k] := by
  rw [← List.take_append_getElem h, List.flatten_append]; simp
theorem catL_step {bss : List (List (BitVec 8))} {k : Nat} (h : k < bss.length) : catL (bss.take (k + 1)) = catL (bss.take k) + bss[k].length := by
  unfold catL; rw [flat_step h, List.length_append]
theorem catL_le (bss : List (List (BitVec 8))) (k : Nat) : catL (bss.take k) ≤ catL bss := by
  unfold catL
  conv => rhs; rw [← List.take_append_drop k bss]
  rw [List.flatten_append, List.length_append]
  omega
def catF (bss : List (List (BitVec 8))) (k : Nat) : S := ⟨tmL [(6, .row 0 k 0 (catL (bss.take k))), (25, .t (.sl (catE bss)) false), (26, .t (.i .i64 bss.length) true), (27, .t (.i .i64 k) true)], [.row k 1 (bT (bss.take k).flatten) true]⟩
theorem okEs_bT (bs : List (BitVec 8)) : okEs 1 (bT bs) := by
  intro e he
  simp only [bT, List.mem_map] at he
  obtain ⟨_, _, rfl⟩ := he
  simp [T.one]
theorem bT_append (xs ys : List (BitVec 8)) : bT (xs ++ ys) = bT xs ++ bT ys := by simp [bT]
theorem catF_row (bss : List (List (BitVec 8))) {k : Nat} (hk : k < bss.length) : List.take (catL (bss.take k)) (bT (bss.take k).flatten) ++ bT bss[k] = bT (bss.take (k + 1)).flatten := by
  rw [flat_step hk, bT_append, List.take_of_length_le (by rw [bT_length]; exact Nat.le_refl _)]
theorem s_slices_Concat (bss : List (List (BitVec 8))) (hn : bss.length ≤ 1000) (hl : catL bss ≤ 1000000) : Spec Try.prog 64 [.sl (catE bss)] [.row 0 1 (bT bss.flatten) true] (.row 0 0 0 (catL bss)) := by
  refine spec_ko (hold mixed) b_slices_Concat [.row 0 1 (bT bss.flatten) true] [.row 0 0 0 (catL bss)] ?_
  simp -implicitDefEqProofs only [go_sem, reduceIte, Nat.reduceAdd, Nat.reduceSub, Nat.reduceMul, Nat.reduceLT, Nat.reduceLeDiff, Nat.reduceEqDiff, Nat.reduceBEq, Int.reduceLE, Int.reduceLT, Int.reduceToNat, Int.reduceMul, Int.reduceAdd, Int.reduceSub, Int.reduceNeg, Int.reduceEq, reduceCtorEq, Nat.reduceMod, catE_length]
  refine loop_l (α := Nat) (fun k => ⟨tmL [(0, .t (.sl (catE bss)) false), (3, .t (.i .i64 (catL (bss.take k))) true), (9, .t (.sl (catE bss)) false), (10, .t (.i .i64 bss.length) true), (11, .t (.i .i64 k) true)], []⟩) (fun k => bss.length - k) (fun k => k ≤ bss.length) 0 (by simp -implicitDefEqProofs only [go_sem, reduceIte, Nat.reduceAdd, Nat.reduceSub, Nat.reduceMul, Nat.reduceLT, Nat.reduceLeDiff, Nat.reduceEqDiff, Nat.reduceBEq, Int.reduceLE, Int.reduceLT, Int.reduceToNat, Int.reduceMul, Int.reduceAdd, Int.reduceSub, Int.reduceNeg, Int.reduceEq, reduceCtorEq, Nat.reduceMod]; rfl) (by omega) ?_
  intro k hk R hR
  simp -implicitDefEqProofs only [go_sem, reduceIte, Nat.reduceAdd, Nat.reduceSub, Nat.reduceMul, Nat.reduceLT, Nat.reduceLeDiff, Nat.reduceEqDiff, Nat.reduceBEq, Int.reduceLE, Int.reduceLT, Int.reduceToNat, Int.reduceMul, Int.reduceAdd, Int.reduceSub, Int.reduceNeg, Int.reduceEq, reduceCtorEq, Nat.reduceMod]
  refine wcond_mk (fun h => ?_) (fun h => ?_)
  · have hk' : k < bss.length := by have := of_decide_eq_true h; omega
    have hs := catL_step hk'
    have hb := catL_le bss (k + 1)
    have hw : IntKind.i64.wrap (((catL (bss.take k) : Nat) : Int) + ((bss[k].length : Nat) : Int)) = ((catL (bss.take (k + 1)) : Nat) : Int) := by rw [wrap_i64_id (by omega) (by omega)]; omega
    have hneg : (((catL (bss.take (k + 1)) : Nat) : Int) < 0) = False := eq_false (by omega)
    simp -implicitDefEqProofs only [go_sem, reduceIte, Nat.reduceAdd, Nat.reduceSub, Nat.reduceMul, Nat.reduceLT, Nat.reduceLeDiff, Nat.reduceEqDiff, Nat.reduceBEq, Int.reduceLE, Int.reduceLT, Int.reduceToNat, Int.reduceMul, Int.reduceAdd, Int.reduceSub, Int.reduceNeg, Int.reduceEq, reduceCtorEq, Nat.reduceMod, catE_get hk', catE_length, hw, hneg]
    refine hR (k + 1) _ ?_ (by omega) (by omega)
    simp -implicitDefEqProofs only [go_sem, reduceIte, Nat.reduceAdd, Nat.reduceSub, Nat.reduceMul, Nat.reduceLT, Nat.reduceLeDiff, Nat.reduceEqDiff, Nat.reduceBEq, Int.reduceLE, Int.reduceLT, Int.reduceToNat, Int.reduceMul, Int.reduceAdd, Int.reduceSub, Int.reduceNeg, Int.reduceEq, reduceCtorEq, Nat.reduceMod, wrap_i64_id (show -9223372036854775808 ≤ (k : Int) + 1 by omega) (by omega), Int.natCast_add]
    rfl
  · have hk' : ¬ k < bss.length := by have := of_decide_eq_false h; omega
    obtain rfl : k = bss.length := by omega
    simp -implicitDefEqProofs only [go_sem, reduceIte, Nat.reduceAdd, Nat.reduceSub, Nat.reduceMul, Nat.reduceLT, Nat.reduceLeDiff, Nat.reduceEqDiff, Nat.reduceBEq, Int.reduceLE, Int.reduceLT, Int.reduceToNat, Int.reduceMul, Int.reduceAdd, Int.reduceSub, Int.reduceNeg, Int.reduceEq, reduceCtorEq, Nat.reduceMod, List.take_length]
    by_cases h0 : 0 < catL bss
    · refine call_k (s_slices_Grow (catL bss) h0 hl) ?_
      simp -implicitDefEqProofs only [go_sem, reduceIte, Nat.reduceAdd, Nat.reduceSub, Nat.reduceMul, Nat.reduceLT, Nat.reduceLeDiff, Nat.reduceEqDiff, Nat.reduceBEq, Int.reduceLE, Int.reduceLT, Int.reduceToNat, Int.reduceMul, Int.reduceAdd, Int.reduceSub, Int.reduceNeg, Int.reduceEq, reduceCtorEq, Nat.reduceMod]
      refine loop_l (α := Nat) (catF bss) (fun k => bss.length - k) (fun k => k ≤ bss.length) 0 (by simp -implicitDefEqProofs only [go_sem, reduceIte, Nat.reduceAdd, Nat.reduceSub, Nat.reduceMul, Nat.reduceLT, Nat.reduceLeDiff, Nat.reduceEqDiff, Nat.reduceBEq, Int.reduceLE, Int.reduceLT, Int.reduceToNat, Int.reduceMul, Int.reduceAdd, Int.reduceSub, Int.reduceNeg, Int.reduceEq, reduceCtorEq, Nat.reduceMod, catE_length]; rfl) (by omega) ?_
      intro k hk R hR
      simp -implicitDefEqProofs only [go_sem, reduceIte, Nat.reduceAdd, Nat.reduceSub, Nat.reduceMul, Nat.reduceLT, Nat.reduceLeDiff, Nat.reduceEqDiff, Nat.reduceBEq, Int.reduceLE, Int.reduceLT, Int.reduceToNat, Int.reduceMul, Int.reduceAdd, Int.reduceSub, Int.reduceNeg, Int.reduceEq, reduceCtorEq, Nat.reduceMod, catF]
      refine wcond_mk (fun h => ?_) (fun h => ?_)
      · have hk' : k < bss.length := by have := of_decide_eq_true h; omega
        have hs := catL_step hk'
        have hb := catL_le bss (k + 1)
        simp -implicitDefEqProofs only [go_sem, reduceIte, Nat.reduceAdd, Nat.reduceSub, Nat.reduceMul, Nat.reduceLT, Nat.reduceLeDiff, Nat.reduceEqDiff, Nat.reduceBEq, Int.reduceLE, Int.reduceLT, Int.reduceToNat, Int.reduceMul, Int.reduceAdd, Int.reduceSub, Int.reduceNeg, Int.reduceEq, reduceCtorEq, Nat.reduceMod, catE_get hk', catE_length]
        refine ⟨⟨okEs_bT _, Nat.le_refl _, by unfold room; omega⟩, hR (k + 1) _ ?_ (by omega) (by omega)⟩
        simp -implicitDefEqProofs only [go_sem, reduceIte, Nat.reduceAdd, Nat.reduceSub, Nat.reduceMul, Nat.reduceLT, Nat.reduceLeDiff, Nat.reduceEqDiff, Nat.reduceBEq, Int.reduceLE, Int.reduceLT, Int.reduceToNat, Int.reduceMul, Int.reduceAdd, Int.reduceSub, Int.reduceNeg, Int.reduceEq, reduceCtorEq, Nat.reduceMod, wrap_i64_id (show -9223372036854775808 ≤ (k : Int) + 1 by omega) (by omega), Int.natCast_add]
        rw [← hs, catF_row bss hk']
        rfl
      · have hk' : ¬ k < bss.length := by have := of_decide_eq_false h; omega
        obtain rfl : k = bss.length := by omega
        simp -implicitDefEqProofs only [go_sem, reduceIte, Nat.reduceAdd, Nat.reduceSub, Nat.reduceMul, Nat.reduceLT, Nat.reduceLeDiff, Nat.reduceEqDiff, Nat.reduceBEq, Int.reduceLE, Int.reduceLT, Int.reduceToNat, Int.reduceMul, Int.reduceAdd, Int.reduceSub, Int.reduceNeg, Int.reduceEq, reduceCtorEq, Nat.reduceMod, List.take_length]
        refine ends_mk [0] ?_ ?_
        · simp -implicitDefEqProofs only [go_sem, reduceIte, Nat.reduceAdd, Nat.reduceSub, Nat.reduceMul, Nat.reduceLT, Nat.reduceLeDiff, Nat.reduceEqDiff, Nat.reduceBEq, Int.reduceLE, Int.reduceLT, Int.reduceToNat, Int.reduceMul, Int.reduceAdd, Int.reduceSub, Int.reduceNeg, Int.reduceEq, reduceCtorEq, Nat.reduceMod]
          exact List.take_of_length_le (by rw [bT_length]; exact Nat.le_refl _)
        · simp -implicitDefEqProofs only [go_sem, reduceIte, Nat.reduceAdd, Nat.reduceSub, Nat.reduceMul, Nat.reduceLT, Nat.reduceLeDiff, Nat.reduceEqDiff, Nat.reduceBEq, Int.reduceLE, Int.reduceLT, Int.reduceToNat, Int.reduceMul, Int.reduceAdd, Int.reduceSub, Int.reduceNeg, Int.reduceEq, reduceCtorEq, Nat.reduceMod]
    · have hz : catL bss = 0 := by omega
      refine call_k s_slices_Grow0 ?_ (by simp -implicitDefEqProofs only [go_sem, reduceIte, Nat.reduceAdd, Nat.reduceSub, Nat.reduceMul, Nat.reduceLT, Nat.reduceLeDiff, Nat.reduceEqDiff, Nat.reduceBEq, Int.reduceLE, Int.reduceLT, Int.reduceToNat, Int.reduceMul, Int.reduceAdd, Int.reduceSub, Int.reduceNeg, Int.reduceEq, reduceCtorEq, Nat.reduceMod, hz, Int.natCast_zero])
      simp -implicitDefEqProofs only [go_sem, reduceIte, Nat.reduceAdd, Nat.reduceSub, Nat.reduceMul, Nat.reduceLT, Nat.reduceLeDiff, Nat.reduceEqDiff, Nat.reduceBEq, Int.reduceLE, Int.reduceLT, Int.reduceToNat, Int.reduceMul, Int.reduceAdd, Int.reduceSub, Int.reduceNeg, Int.reduceEq, reduceCtorEq, Nat.reduceMod]
      refine loop_l (α := Nat) (catF bss) (fun k => bss.length - k) (fun k => k ≤ bss.length) 0 (by simp -implicitDefEqProofs only [go_sem, reduceIte, Nat.reduceAdd, Nat.reduceSub, Nat.reduceMul, Nat.reduceLT, Nat.reduceLeDiff, Nat.reduceEqDiff, Nat.reduceBEq, Int.reduceLE, Int.reduceLT, Int.reduceToNat, Int.reduceMul, Int.reduceAdd, Int.reduceSub, Int.reduceNeg, Int.reduceEq, reduceCtorEq, Nat.reduceMod, catE_length]; rfl) (by omega) ?_
      intro k hk R hR
      simp -implicitDefEqProofs only [go_sem, reduceIte, Nat.reduceAdd, Nat.reduceSub, Nat.reduceMul, Nat.reduceLT, Nat.reduceLeDiff, Nat.reduceEqDiff, Nat.reduceBEq, Int.reduceLE, Int.reduceLT, Int.reduceToNat, Int.reduceMul, Int.reduceAdd, Int.reduceSub, Int.reduceNeg, Int.reduceEq, reduceCtorEq, Nat.reduceMod, catF]
      refine wcond_mk (fun h => ?_) (fun h => ?_)
      · have hk' : k < bss.length := by have := of_decide_eq_true h; omega
        have hs := catL_step hk'
        have hb := catL_le bss (k + 1)
        simp -implicitDefEqProofs only [go_sem, reduceIte, Nat.reduceAdd, Nat.reduceSub, Nat.reduceMul, Nat.reduceLT, Nat.reduceLeDiff, Nat.reduceEqDiff, Nat.reduceBEq, Int.reduceLE, Int.reduceLT, Int.reduceToNat, Int.reduceMul, Int.reduceAdd, Int.reduceSub, Int.reduceNeg, Int.reduceEq, reduceCtorEq, Nat.reduceMod, catE_get hk', catE_length]
        refine ⟨⟨okEs_bT _, Nat.le_refl _, by unfold room; omega⟩, hR (k + 1) _ ?_ (by omega) (by omega)⟩
        simp -implicitDefEqProofs only [go_sem, reduceIte, Nat.reduceAdd, Nat.reduceSub, Nat.reduceMul, Nat.reduceLT, Nat.reduceLeDiff, Nat.reduceEqDiff, Nat.reduceBEq, Int.reduceLE, Int.reduceLT, Int.reduceToNat, Int.reduceMul, Int.reduceAdd, Int.reduceSub, Int.reduceNeg, Int.reduceEq, reduceCtorEq, Nat.reduceMod, wrap_i64_id (show -9223372036854775808 ≤ (k : Int) + 1 by omega) (by omega), Int.natCast_add]
        rw [← hs, catF_row bss hk']
        rfl
      · have hk' : ¬ k < bss.length := by have := of_decide_eq_false h; omega
        obtain rfl : k = bss.length := by omega
        simp -implicitDefEqProofs only [go_sem, reduceIte, Nat.reduceAdd, Nat.reduceSub, Nat.reduceMul, Nat.reduceLT, Nat.reduceLeDiff, Nat.reduceEqDiff, Nat.reduceBEq, Int.reduceLE, Int.reduceLT, Int.reduceToNat, Int.reduceMul, Int.reduceAdd, Int.reduceSub, Int.reduceNeg, Int.reduceEq, reduceCtorEq, Nat.reduceMod, List.take_length]
        refine ends_mk [0] ?_ ?_
        · simp -implicitDefEqProofs only [go_sem, reduceIte, Nat.reduceAdd, Nat.reduceSub, Nat.reduceMul, Nat.reduceLT, Nat.reduceLeDiff, Nat.reduceEqDiff, Nat.reduceBEq, Int.reduceLE, Int.reduceLT, Int.reduceToNat, Int.reduceMul, Int.reduceAdd, Int.reduceSub, Int.reduceNeg, Int.reduceEq, reduceCtorEq, Nat.reduceMod]
          exact List.take_of_length_le (by rw [bT_length]; exact Nat.le_refl _)
        · simp -implicitDefEqProofs only [go_sem, reduceIte, Nat.reduceAdd, Nat.reduceSub, Nat.reduceMul, Nat.reduceLT, Nat.reduceLeDiff, Nat.reduceEqDiff, Nat.reduceBEq, Int.reduceLE, Int.reduceLT, Int.reduceToNat, Int.reduceMul, Int.reduceAdd, Int.reduceSub, Int.reduceNeg, Int.reduceEq, reduceCtorEq, Nat.reduceMod]

theorem bT_cons (b : BitVec 8) (bs : List (BitVec 8)) : bT (b :: bs) = [.i .u8 b.toNat] :: bT bs := rfl
/-- The number of four bytes, so far. -/
def getV (b0 b1 b2 b3 : BitVec 8) : Nat → BitVec 32
  | 0 => 0#32
  | 1 => 0#32 ||| b0.setWidth 32 <<< 0
  | 2 => 0#32 ||| b0.setWidth 32 <<< 0 ||| b1.setWidth 32 <<< 8
  | 3 => 0#32 ||| b0.setWidth 32 <<< 0 ||| b1.setWidth 32 <<< 8 ||| b2.setWidth 32 <<< 16
  | _ => 0#32 ||| b0.setWidth 32 <<< 0 ||| b1.setWidth 32 <<< 8 ||| b2.setWidth 32 <<< 16 ||| b3.setWidth 32 <<< 24
theorem s_frame_get (b0 b1 b2 b3 : BitVec 8) (bs : List (BitVec 8)) (hl : bs.length ≤ 1000000) : Spec Try.prog 48 [.sl (bT (b0 :: b1 :: b2 :: b3 :: bs))] [] (.t (.i .u32 (getV b0 b1 b2 b3 4).toNat) true) := by
  refine spec_k (hold mixed) b_frame_get [(.i .u32 (getV b0 b1 b2 b3 4).toNat, true)] ?_
  have h1 : (4 : Int) ≤ ((bs.length + 1 + 1 + 1 + 1 : Nat) : Int) := by omega
  simp -implicitDefEqProofs only [go_sem, reduceIte, Nat.reduceAdd, Nat.reduceSub, Nat.reduceMul, Nat.reduceLT, Nat.reduceLeDiff, Nat.reduceEqDiff, Nat.reduceBEq, Int.reduceLE, Int.reduceLT, Int.reduceToNat, Int.reduceMul, Int.reduceAdd, Int.reduceSub, Int.reduceNeg, Int.reduceEq, reduceCtorEq, Nat.reduceMod, bT_cons, h1, Int.natCast_zero]
  refine ⟨.inl trivial, ?_⟩
  refine loop_l (α := Nat) (fun k => ⟨tmL [(3, .t (.i .u32 (getV b0 b1 b2 b3 k).toNat) true), (7, .t (.sl (bT [b0, b1, b2, b3])) false), (8, .t (.i .i64 4) true), (9, .t (.i .i64 k) true)], []⟩) (fun k => 4 - k) (fun k => k ≤ 4) 0 (by simp -implicitDefEqProofs only [go_sem, reduceIte, Nat.reduceAdd, Nat.reduceSub, Nat.reduceMul, Nat.reduceLT, Nat.reduceLeDiff, Nat.reduceEqDiff, Nat.reduceBEq, Int.reduceLE, Int.reduceLT, Int.reduceToNat, Int.reduceMul, Int.reduceAdd, Int.reduceSub, Int.reduceNeg, Int.reduceEq, reduceCtorEq, Nat.reduceMod]; rfl) (by omega) ?_
  intro k hk R hR
  have w0 : IntKind.i64.wrap 0 = 0 := by decide
  have w1 : IntKind.i64.wrap 1 = 1 := by decide
  have w2 : IntKind.i64.wrap 2 = 2 := by decide
  have w3 : IntKind.i64.wrap 3 = 3 := by decide
  have w4 : IntKind.i64.wrap 4 = 4 := by decide
  have w8 : IntKind.i64.wrap 8 = 8 := by decide
  have w16 : IntKind.i64.wrap 16 = 16 := by decide
  have w24 : IntKind.i64.wrap 24 = 24 := by decide
  have m0 : min 0 32 = 0 := by decide
  have m8 : min 8 32 = 8 := by decide
  have m16 : min 16 32 = 16 := by decide
  have m24 : min 24 32 = 24 := by decide
  obtain rfl | rfl | rfl | rfl | rfl : k = 0 ∨ k = 1 ∨ k = 2 ∨ k = 3 ∨ k = 4 := by omega
  all_goals simp -implicitDefEqProofs only [go_sem, reduceIte, Nat.reduceAdd, Nat.reduceSub, Nat.reduceMul, Nat.reduceLT, Nat.reduceLeDiff, Nat.reduceEqDiff, Nat.reduceBEq, Int.reduceLE, Int.reduceLT, Int.reduceToNat, Int.reduceMul, Int.reduceAdd, Int.reduceSub, Int.reduceNeg, Int.reduceEq, reduceCtorEq, Nat.reduceMod, getV, bT_cons, Int.cast_ofNat_Int, Int.natCast_zero, Int.natCast_one, w0, w1, w2, w3, w4, w8, w16, w24, m0, m8, m16, m24, AV.one, T.one]
  · refine hR 1 _ ?_ (by omega) (by omega)
    simp -implicitDefEqProofs only [go_sem, reduceIte, Nat.reduceAdd, Nat.reduceSub, Nat.reduceMul, Nat.reduceLT, Nat.reduceLeDiff, Nat.reduceEqDiff, Nat.reduceBEq, Int.reduceLE, Int.reduceLT, Int.reduceToNat, Int.reduceMul, Int.reduceAdd, Int.reduceSub, Int.reduceNeg, Int.reduceEq, reduceCtorEq, Nat.reduceMod]
    rfl
  · refine hR 2 _ ?_ (by omega) (by omega)
    simp -implicitDefEqProofs only [go_sem, reduceIte, Nat.reduceAdd, Nat.reduceSub, Nat.reduceMul, Nat.reduceLT, Nat.reduceLeDiff, Nat.reduceEqDiff, Nat.reduceBEq, Int.reduceLE, Int.reduceLT, Int.reduceToNat, Int.reduceMul, Int.reduceAdd, Int.reduceSub, Int.reduceNeg, Int.reduceEq, reduceCtorEq, Nat.reduceMod]
    rfl
  · refine hR 3 _ ?_ (by omega) (by omega)
    simp -implicitDefEqProofs only [go_sem, reduceIte, Nat.reduceAdd, Nat.reduceSub, Nat.reduceMul, Nat.reduceLT, Nat.reduceLeDiff, Nat.reduceEqDiff, Nat.reduceBEq, Int.reduceLE, Int.reduceLT, Int.reduceToNat, Int.reduceMul, Int.reduceAdd, Int.reduceSub, Int.reduceNeg, Int.reduceEq, reduceCtorEq, Nat.reduceMod]
    rfl
  · refine hR 4 _ ?_ (by omega) (by omega)
    simp -implicitDefEqProofs only [go_sem, reduceIte, Nat.reduceAdd, Nat.reduceSub, Nat.reduceMul, Nat.reduceLT, Nat.reduceLeDiff, Nat.reduceEqDiff, Nat.reduceBEq, Int.reduceLE, Int.reduceLT, Int.reduceToNat, Int.reduceMul, Int.reduceAdd, Int.reduceSub, Int.reduceNeg, Int.reduceEq, reduceCtorEq, Nat.reduceMod]
    rfl
end Go.Proofs.Ytadnjellfiafaaa.Pm
