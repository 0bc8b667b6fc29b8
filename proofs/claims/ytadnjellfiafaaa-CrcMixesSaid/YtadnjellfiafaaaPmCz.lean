/- crc: the walk of the statement CrcMixes. No law of Go's is stated here. -/
import Derived.Test.YtadnjellfiafaaaPmCy
set_option linter.all false
set_option maxRecDepth 100000
namespace Go.Proofs.Ytadnjellfiafaaa.Pm
open Go Go.RowKit

/-- Bytes, four of them changed. -/
def chg (p q : List (BitVec 8)) (a0 a1 a2 a3 : BitVec 8) : List (BitVec 8) := p ++ [a0, a1, a2, a3] ++ q
theorem four_of (xs : List (BitVec 8)) (n : Nat) (h : n + 4 ≤ xs.length) : ∃ p q a0 a1 a2 a3, xs = chg p q a0 a1 a2 a3 ∧ p.length = n := by
  refine ⟨xs.take n, xs.drop (n + 4), xs[n], xs[n + 1], xs[n + 2], xs[n + 3], ?_, by simp; omega⟩
  unfold chg
  conv => lhs; rw [← List.take_append_drop n xs]
  rw [List.append_assoc]
  congr 1
  rw [List.drop_eq_getElem_cons (by omega), List.drop_eq_getElem_cons (by omega), List.drop_eq_getElem_cons (by omega), List.drop_eq_getElem_cons (by omega)]
  rfl
theorem chg_length (p q : List (BitVec 8)) (a0 a1 a2 a3 : BitVec 8) : (chg p q a0 a1 a2 a3).length = p.length + 4 + q.length := by simp [chg]; omega

section
variable (p q : List (BitVec 8)) (a0 a1 a2 a3 c : BitVec 8)
theorem chg_bT : bT (chg p q a0 a1 a2 a3) = bT p ++ ([[.i .u8 a0.toNat], [.i .u8 a1.toNat], [.i .u8 a2.toNat], [.i .u8 a3.toNat]] ++ bT q) := by simp [chg, bT]
theorem get0 : (bT (chg p q a0 a1 a2 a3))[p.length]? = some [.i .u8 a0.toNat] := by rw [chg_bT, List.getElem?_append_right (by simp [bT_length])]; simp [bT_length]
theorem get1 : (bT (chg p q a0 a1 a2 a3))[p.length + 1]? = some [.i .u8 a1.toNat] := by rw [chg_bT, List.getElem?_append_right (by simp [bT_length])]; simp [bT_length]
theorem get2 : (bT (chg p q a0 a1 a2 a3))[p.length + 2]? = some [.i .u8 a2.toNat] := by rw [chg_bT, List.getElem?_append_right (by simp [bT_length])]; simp [bT_length]
theorem get3 : (bT (chg p q a0 a1 a2 a3))[p.length + 3]? = some [.i .u8 a3.toNat] := by rw [chg_bT, List.getElem?_append_right (by simp [bT_length])]; simp [bT_length]
theorem set0 : (bT (chg p q a0 a1 a2 a3)).set p.length [.i .u8 c.toNat] = bT (chg p q c a1 a2 a3) := by rw [chg_bT, chg_bT, List.set_append_right _ _ (by simp [bT_length])]; simp [bT_length]
theorem set1 : (bT (chg p q a0 a1 a2 a3)).set (p.length + 1) [.i .u8 c.toNat] = bT (chg p q a0 c a2 a3) := by rw [chg_bT, chg_bT, List.set_append_right _ _ (by simp [bT_length])]; simp [bT_length]
theorem set2 : (bT (chg p q a0 a1 a2 a3)).set (p.length + 2) [.i .u8 c.toNat] = bT (chg p q a0 a1 c a3) := by rw [chg_bT, chg_bT, List.set_append_right _ _ (by simp [bT_length])]; simp [bT_length]
theorem set3 : (bT (chg p q a0 a1 a2 a3)).set (p.length + 3) [.i .u8 c.toNat] = bT (chg p q a0 a1 a2 c) := by rw [chg_bT, chg_bT, List.set_append_right _ _ (by simp [bT_length])]; simp [bT_length]
theorem wl (m k : Nat) (h : m + k ≤ 1000000) : IntKind.i64.wrap ((m : Int) + (k : Int)) = ((m + k : Nat) : Int) := by rw [wrap_i64_id (by omega) (by omega)]; omega
end
def chgK (p q : List (BitVec 8)) (a0 a1 a2 a3 c0 c1 c2 c3 : BitVec 8) : Nat → List (BitVec 8)
  | 0 => chg p q a0 a1 a2 a3
  | 1 => chg p q (a0 ^^^ c0) a1 a2 a3
  | 2 => chg p q (a0 ^^^ c0) (a1 ^^^ c1) a2 a3
  | 3 => chg p q (a0 ^^^ c0) (a1 ^^^ c1) (a2 ^^^ c2) a3
  | _ => chg p q (a0 ^^^ c0) (a1 ^^^ c1) (a2 ^^^ c2) (a3 ^^^ c3)
def chF (p q : List (BitVec 8)) (a0 a1 a2 a3 : BitVec 8) (os : List AV) (kv : Nat) (es : List (List T)) (k : Nat) (fs : List (List T)) : S := ⟨tmL [(3, .t (.i .i64 p.length) true), (9, .ptr 0 0), (13, .t (.i .u32 (updV 0#32 (chg p q a0 a1 a2 a3)).toNat) true), (21, .row 2 1 0 (chg p q a0 a1 a2 a3).length), (22, .t (.i .i64 k) true)], [.var os, .row kv 1 es true, .row 1 1 fs false]⟩
attribute [go_sem] chF
theorem eqb_zero (a : BitVec 8) : (((a.toNat : Nat) : Int) == 0) = (a == 0#8) := eqb_nat8 a 0#8
theorem change_law (p q : List (BitVec 8)) (a0 a1 a2 a3 c0 c1 c2 c3 : BitVec 8) : ((updV 0#32 (chg p q (a0 ^^^ c0) (a1 ^^^ c1) (a2 ^^^ c2) (a3 ^^^ c3)) == updV 0#32 (chg p q a0 a1 a2 a3)) == (c0 == 0#8 && (c1 == 0#8 && (c2 == 0#8 && c3 == 0#8)))) = true := by
  rw [beq_iff_eq, Bool.eq_iff_iff, beq_iff_eq]
  simp only [Bool.and_eq_true, beq_iff_eq]
  exact upd_change p q a0 a1 a2 a3 c0 c1 c2 c3
/-- The second half. -/
theorem mixes_tail (xs : List (BitVec 8)) (hl : xs.length ≤ 1000) (n : Int) (hn0 : -9223372036854775808 ≤ n) (hn1 : n ≤ 9223372036854775807) (o0 o1 o2 o3 : BitVec 8) (v : AV) (kv : Nat) (es : List (List T)) :
    Wk (Xof Try.prog) (retT (Xof Try.prog).ti [ResultVar.tmp 10] [(.b true, true)]) .base c_law02_CrcMixes_28 ⟨tmL [(0, .t (.sl (bT xs)) false), (3, .t (.i .i64 n) true), (9, .ptr 0 0), (13, .t (.i .u32 (updV 0#32 xs).toNat) true), (108, v)], [.var [.t (.i .u8 o0.toNat) false, .t (.i .u8 o1.toNat) false, .t (.i .u8 o2.toNat) false, .t (.i .u8 o3.toNat) false], .row kv 1 es true]⟩ .mk := by
  by_cases h0 : n < 0
  · simp -implicitDefEqProofs only [go_sem, reduceIte, Nat.reduceAdd, Nat.reduceSub, Nat.reduceMul, Nat.reduceLT, Nat.reduceLeDiff, Nat.reduceEqDiff, Nat.reduceBEq, Int.reduceLE, Int.reduceLT, Int.reduceToNat, Int.reduceMul, Int.reduceAdd, Int.reduceSub, Int.reduceNeg, Int.reduceEq, reduceCtorEq, Nat.reduceMod, h0]
    refine call_k s_law02_alive ?_
    simp -implicitDefEqProofs only [go_sem, reduceIte, Nat.reduceAdd, Nat.reduceSub, Nat.reduceMul, Nat.reduceLT, Nat.reduceLeDiff, Nat.reduceEqDiff, Nat.reduceBEq, Int.reduceLE, Int.reduceLT, Int.reduceToNat, Int.reduceMul, Int.reduceAdd, Int.reduceSub, Int.reduceNeg, Int.reduceEq, reduceCtorEq, Nat.reduceMod]
  by_cases h2 : n > (xs.length : Int) - 4
  · have h3 : n > IntKind.i64.wrap ((xs.length : Int) - 4) := by rw [wrap_i64_id (by omega) (by omega)]; exact h2
    simp -implicitDefEqProofs only [go_sem, reduceIte, Nat.reduceAdd, Nat.reduceSub, Nat.reduceMul, Nat.reduceLT, Nat.reduceLeDiff, Nat.reduceEqDiff, Nat.reduceBEq, Int.reduceLE, Int.reduceLT, Int.reduceToNat, Int.reduceMul, Int.reduceAdd, Int.reduceSub, Int.reduceNeg, Int.reduceEq, reduceCtorEq, Nat.reduceMod, h0, h3]
    refine call_k s_law02_alive ?_
    simp -implicitDefEqProofs only [go_sem, reduceIte, Nat.reduceAdd, Nat.reduceSub, Nat.reduceMul, Nat.reduceLT, Nat.reduceLeDiff, Nat.reduceEqDiff, Nat.reduceBEq, Int.reduceLE, Int.reduceLT, Int.reduceToNat, Int.reduceMul, Int.reduceAdd, Int.reduceSub, Int.reduceNeg, Int.reduceEq, reduceCtorEq, Nat.reduceMod]
  have h3 : ¬ n > IntKind.i64.wrap ((xs.length : Int) - 4) := by rw [wrap_i64_id (by omega) (by omega)]; exact h2
  obtain ⟨m, rfl⟩ : ∃ m : Nat, n = m := ⟨n.toNat, by omega⟩
  obtain ⟨p, q, a0, a1, a2, a3, rfl, rfl⟩ := four_of xs m (by omega)
  simp -implicitDefEqProofs only [go_sem, reduceIte, Nat.reduceAdd, Nat.reduceSub, Nat.reduceMul, Nat.reduceLT, Nat.reduceLeDiff, Nat.reduceEqDiff, Nat.reduceBEq, Int.reduceLE, Int.reduceLT, Int.reduceToNat, Int.reduceMul, Int.reduceAdd, Int.reduceSub, Int.reduceNeg, Int.reduceEq, reduceCtorEq, Nat.reduceMod, h0, h3]
  refine ⟨⟨okEs_bT _, by unfold room; omega⟩, ?_⟩
  refine loop_l (α := Nat) (fun k => chF p q a0 a1 a2 a3 [.t (.i .u8 o0.toNat) false, .t (.i .u8 o1.toNat) false, .t (.i .u8 o2.toNat) false, .t (.i .u8 o3.toNat) false] kv es k (bT (chgK p q a0 a1 a2 a3 o0 o1 o2 o3 k))) (fun k => 4 - k) (fun k => k ≤ 4) 0 (by simp -implicitDefEqProofs only [go_sem, reduceIte, Nat.reduceAdd, Nat.reduceSub, Nat.reduceMul, Nat.reduceLT, Nat.reduceLeDiff, Nat.reduceEqDiff, Nat.reduceBEq, Int.reduceLE, Int.reduceLT, Int.reduceToNat, Int.reduceMul, Int.reduceAdd, Int.reduceSub, Int.reduceNeg, Int.reduceEq, reduceCtorEq, Nat.reduceMod]; rfl) (by omega) ?_
  intro k hk R hR
  have v0 : IntKind.i64.wrap ((p.length : Int) + 0) = ((p.length : Nat) : Int) := wl p.length 0 (by omega)
  have v1 : IntKind.i64.wrap ((p.length : Int) + 1) = ((p.length + 1 : Nat) : Int) := wl p.length 1 (by omega)
  have v2 : IntKind.i64.wrap ((p.length : Int) + 2) = ((p.length + 2 : Nat) : Int) := wl p.length 2 (by omega)
  have v3 : IntKind.i64.wrap ((p.length : Int) + 3) = ((p.length + 3 : Nat) : Int) := wl p.length 3 (by omega)
  have lc : ∀ x0 x1 x2 x3, (chg p q x0 x1 x2 x3).length = p.length + 4 + q.length := chg_length p q
  have tk : ∀ x0 x1 x2 x3, List.take (p.length + 4 + q.length) (bT (chg p q x0 x1 x2 x3)) = bT (chg p q x0 x1 x2 x3) := fun x0 x1 x2 x3 => List.take_of_length_le (by rw [bT_length, lc]; exact Nat.le_refl _)
  have l0 : ∀ x0 x1 x2 x3, (((p.length : Nat) : Int) < (((chg p q x0 x1 x2 x3).length : Nat) : Int)) = True := fun x0 x1 x2 x3 => eq_true (by rw [lc]; omega)
  have l1 : ∀ x0 x1 x2 x3, (((p.length + 1 : Nat) : Int) < (((chg p q x0 x1 x2 x3).length : Nat) : Int)) = True := fun x0 x1 x2 x3 => eq_true (by rw [lc]; omega)
  have l2 : ∀ x0 x1 x2 x3, (((p.length + 2 : Nat) : Int) < (((chg p q x0 x1 x2 x3).length : Nat) : Int)) = True := fun x0 x1 x2 x3 => eq_true (by rw [lc]; omega)
  have l3 : ∀ x0 x1 x2 x3, (((p.length + 3 : Nat) : Int) < (((chg p q x0 x1 x2 x3).length : Nat) : Int)) = True := fun x0 x1 x2 x3 => eq_true (by rw [lc]; omega)
  obtain rfl | rfl | rfl | rfl | rfl : k = 0 ∨ k = 1 ∨ k = 2 ∨ k = 3 ∨ k = 4 := by omega
  · simp -implicitDefEqProofs only [go_sem, reduceIte, Nat.reduceAdd, Nat.reduceSub, Nat.reduceMul, Nat.reduceLT, Nat.reduceLeDiff, Nat.reduceEqDiff, Nat.reduceBEq, Int.reduceLE, Int.reduceLT, Int.reduceToNat, Int.reduceMul, Int.reduceAdd, Int.reduceSub, Int.reduceNeg, Int.reduceEq, reduceCtorEq, Nat.reduceMod, chgK, Int.cast_ofNat_Int, Int.natCast_zero, Int.natCast_one, v0, v1, v2, v3, l0, l1, l2, l3, get0, get1, get2, get3, w0, w1, w2, w3, w4, AV.one, T.one]
    refine hR 1 _ ?_ (by omega) (by omega)
    simp -implicitDefEqProofs only [go_sem, reduceIte, Nat.reduceAdd, Nat.reduceSub, Nat.reduceMul, Nat.reduceLT, Nat.reduceLeDiff, Nat.reduceEqDiff, Nat.reduceBEq, Int.reduceLE, Int.reduceLT, Int.reduceToNat, Int.reduceMul, Int.reduceAdd, Int.reduceSub, Int.reduceNeg, Int.reduceEq, reduceCtorEq, Nat.reduceMod]
    exact congrArg (chF p q a0 a1 a2 a3 [.t (.i .u8 o0.toNat) false, .t (.i .u8 o1.toNat) false, .t (.i .u8 o2.toNat) false, .t (.i .u8 o3.toNat) false] kv es 1) (set0 p q a0 a1 a2 a3 (a0 ^^^ o0))
  · simp -implicitDefEqProofs only [go_sem, reduceIte, Nat.reduceAdd, Nat.reduceSub, Nat.reduceMul, Nat.reduceLT, Nat.reduceLeDiff, Nat.reduceEqDiff, Nat.reduceBEq, Int.reduceLE, Int.reduceLT, Int.reduceToNat, Int.reduceMul, Int.reduceAdd, Int.reduceSub, Int.reduceNeg, Int.reduceEq, reduceCtorEq, Nat.reduceMod, chgK, Int.cast_ofNat_Int, Int.natCast_zero, Int.natCast_one, v0, v1, v2, v3, l0, l1, l2, l3, get0, get1, get2, get3, w0, w1, w2, w3, w4, AV.one, T.one]
    refine ⟨by rw [lc, lc]; exact Nat.le_refl _, by rw [lc, lc]; exact Nat.le_refl _, hR 2 _ ?_ (by omega) (by omega)⟩
    simp -implicitDefEqProofs only [go_sem, reduceIte, Nat.reduceAdd, Nat.reduceSub, Nat.reduceMul, Nat.reduceLT, Nat.reduceLeDiff, Nat.reduceEqDiff, Nat.reduceBEq, Int.reduceLE, Int.reduceLT, Int.reduceToNat, Int.reduceMul, Int.reduceAdd, Int.reduceSub, Int.reduceNeg, Int.reduceEq, reduceCtorEq, Nat.reduceMod]
    exact congrArg (chF p q a0 a1 a2 a3 [.t (.i .u8 o0.toNat) false, .t (.i .u8 o1.toNat) false, .t (.i .u8 o2.toNat) false, .t (.i .u8 o3.toNat) false] kv es 2) (set1 p q (a0 ^^^ o0) a1 a2 a3 (a1 ^^^ o1))
  · simp -implicitDefEqProofs only [go_sem, reduceIte, Nat.reduceAdd, Nat.reduceSub, Nat.reduceMul, Nat.reduceLT, Nat.reduceLeDiff, Nat.reduceEqDiff, Nat.reduceBEq, Int.reduceLE, Int.reduceLT, Int.reduceToNat, Int.reduceMul, Int.reduceAdd, Int.reduceSub, Int.reduceNeg, Int.reduceEq, reduceCtorEq, Nat.reduceMod, chgK, Int.cast_ofNat_Int, Int.natCast_zero, Int.natCast_one, v0, v1, v2, v3, l0, l1, l2, l3, get0, get1, get2, get3, w0, w1, w2, w3, w4, AV.one, T.one]
    refine ⟨by rw [lc, lc]; exact Nat.le_refl _, by rw [lc, lc]; exact Nat.le_refl _, hR 3 _ ?_ (by omega) (by omega)⟩
    simp -implicitDefEqProofs only [go_sem, reduceIte, Nat.reduceAdd, Nat.reduceSub, Nat.reduceMul, Nat.reduceLT, Nat.reduceLeDiff, Nat.reduceEqDiff, Nat.reduceBEq, Int.reduceLE, Int.reduceLT, Int.reduceToNat, Int.reduceMul, Int.reduceAdd, Int.reduceSub, Int.reduceNeg, Int.reduceEq, reduceCtorEq, Nat.reduceMod]
    exact congrArg (chF p q a0 a1 a2 a3 [.t (.i .u8 o0.toNat) false, .t (.i .u8 o1.toNat) false, .t (.i .u8 o2.toNat) false, .t (.i .u8 o3.toNat) false] kv es 3) (set2 p q (a0 ^^^ o0) (a1 ^^^ o1) a2 a3 (a2 ^^^ o2))
  · simp -implicitDefEqProofs only [go_sem, reduceIte, Nat.reduceAdd, Nat.reduceSub, Nat.reduceMul, Nat.reduceLT, Nat.reduceLeDiff, Nat.reduceEqDiff, Nat.reduceBEq, Int.reduceLE, Int.reduceLT, Int.reduceToNat, Int.reduceMul, Int.reduceAdd, Int.reduceSub, Int.reduceNeg, Int.reduceEq, reduceCtorEq, Nat.reduceMod, chgK, Int.cast_ofNat_Int, Int.natCast_zero, Int.natCast_one, v0, v1, v2, v3, l0, l1, l2, l3, get0, get1, get2, get3, w0, w1, w2, w3, w4, AV.one, T.one]
    refine ⟨by rw [lc, lc]; exact Nat.le_refl _, by rw [lc, lc]; exact Nat.le_refl _, hR 4 _ ?_ (by omega) (by omega)⟩
    simp -implicitDefEqProofs only [go_sem, reduceIte, Nat.reduceAdd, Nat.reduceSub, Nat.reduceMul, Nat.reduceLT, Nat.reduceLeDiff, Nat.reduceEqDiff, Nat.reduceBEq, Int.reduceLE, Int.reduceLT, Int.reduceToNat, Int.reduceMul, Int.reduceAdd, Int.reduceSub, Int.reduceNeg, Int.reduceEq, reduceCtorEq, Nat.reduceMod]
    exact congrArg (chF p q a0 a1 a2 a3 [.t (.i .u8 o0.toNat) false, .t (.i .u8 o1.toNat) false, .t (.i .u8 o2.toNat) false, .t (.i .u8 o3.toNat) false] kv es 4) (set3 p q (a0 ^^^ o0) (a1 ^^^ o1) (a2 ^^^ o2) a3 (a3 ^^^ o3))
  · simp -implicitDefEqProofs only [go_sem, reduceIte, Nat.reduceAdd, Nat.reduceSub, Nat.reduceMul, Nat.reduceLT, Nat.reduceLeDiff, Nat.reduceEqDiff, Nat.reduceBEq, Int.reduceLE, Int.reduceLT, Int.reduceToNat, Int.reduceMul, Int.reduceAdd, Int.reduceSub, Int.reduceNeg, Int.reduceEq, reduceCtorEq, Nat.reduceMod, chgK, Int.cast_ofNat_Int, Int.natCast_zero, Int.natCast_one, w4]
    refine call_k (s_crc_Sum' (chg p q (a0 ^^^ o0) (a1 ^^^ o1) (a2 ^^^ o2) (a3 ^^^ o3)) (by rw [lc]; rw [lc] at hl; omega)) ?_ (by simp -implicitDefEqProofs only [go_sem, reduceIte, Nat.reduceAdd, Nat.reduceSub, Nat.reduceMul, Nat.reduceLT, Nat.reduceLeDiff, Nat.reduceEqDiff, Nat.reduceBEq, Int.reduceLE, Int.reduceLT, Int.reduceToNat, Int.reduceMul, Int.reduceAdd, Int.reduceSub, Int.reduceNeg, Int.reduceEq, reduceCtorEq, Nat.reduceMod, lc, bT_length, tk])
    have key := change_law p q a0 a1 a2 a3 o0 o1 o2 o3
    simp -implicitDefEqProofs only [go_sem, reduceIte, Nat.reduceAdd, Nat.reduceSub, Nat.reduceMul, Nat.reduceLT, Nat.reduceLeDiff, Nat.reduceEqDiff, Nat.reduceBEq, Int.reduceLE, Int.reduceLT, Int.reduceToNat, Int.reduceMul, Int.reduceAdd, Int.reduceSub, Int.reduceNeg, Int.reduceEq, reduceCtorEq, Nat.reduceMod, eqb_nat, eqb_zero, eqCells, key, AV.one, T.one]
    refine call_k s_law02_alive ?_
    simp -implicitDefEqProofs only [go_sem, reduceIte, Nat.reduceAdd, Nat.reduceSub, Nat.reduceMul, Nat.reduceLT, Nat.reduceLeDiff, Nat.reduceEqDiff, Nat.reduceBEq, Int.reduceLE, Int.reduceLT, Int.reduceToNat, Int.reduceMul, Int.reduceAdd, Int.reduceSub, Int.reduceNeg, Int.reduceEq, reduceCtorEq, Nat.reduceMod]
end Go.Proofs.Ytadnjellfiafaaa.Pm
