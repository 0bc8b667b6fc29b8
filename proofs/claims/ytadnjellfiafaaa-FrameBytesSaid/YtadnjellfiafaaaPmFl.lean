/- frame's reference: scans. No law of Go's is stated here. -/
import Derived.Test.YtadnjellfiafaaaPmFk
set_option linter.all false
set_option maxRecDepth 100000
namespace Go.Proofs.Ytadnjellfiafaaa.Pm
open Go Go.RowKit

/-- What 'one' returns. -/
def oneV : List (BitVec 8) → Rec × Bool
  | b0 :: b1 :: b2 :: b3 :: c0 :: c1 :: c2 :: c3 :: d0 :: d1 :: d2 :: d3 :: bs =>
    if numL b0 b1 b2 b3 ≤ 1000 ∧ numL b0 b1 b2 b3 ≤ bs.length then
      (⟨numL c0 c1 c2 c3, bs.take (numL b0 b1 b2 b3)⟩, (⟨numL c0 c1 c2 c3, bs.take (numL b0 b1 b2 b3)⟩ : Rec).ok && startsL (b0 :: b1 :: b2 :: b3 :: c0 :: c1 :: c2 :: c3 :: d0 :: d1 :: d2 :: d3 :: bs) (bytesL ⟨numL c0 c1 c2 c3, bs.take (numL b0 b1 b2 b3)⟩))
    else (⟨0, []⟩, false)
  | _ => (⟨0, []⟩, false)
theorem oneV_short {bs : List (BitVec 8)} (h : bs.length < 12) : oneV bs = (⟨0, []⟩, false) := by
  unfold oneV
  split
  · simp at h; omega
  · rfl
theorem oneV_true {bs : List (BitVec 8)} (h : (oneV bs).2 = true) : oneL bs = some (oneV bs).1 := by
  unfold oneV at h ⊢
  split at h
  · split at h
    · rename_i hc
      rw [if_pos hc]
      simp only [Bool.and_eq_true] at h
      exact oneL_iff.2 h
    · cases h
  · cases h
theorem oneV_false {bs : List (BitVec 8)} (h : (oneV bs).2 = false) : oneL bs = none := by
  by_cases h12 : bs.length < 12
  · exact oneL_short h12
  · obtain ⟨b0, b1, b2, b3, c0, c1, c2, c3, d0, d1, d2, d3, bs', rfl⟩ := long_split h12
    cases ho : oneL (b0 :: b1 :: b2 :: b3 :: c0 :: c1 :: c2 :: c3 :: d0 :: d1 :: d2 :: d3 :: bs') with
    | none => rfl
    | some r =>
      exfalso
      have h1 := oneL_iff.1 ho
      simp only [oneL] at ho
      split at ho
      · rename_i hc
        simp only [Option.some.injEq] at ho
        subst ho
        simp only [oneV, if_pos (And.intro hc.1 hc.2.1)] at h
        rw [h1.1, h1.2] at h
        cases h
      · cases ho
theorem s_ref03_one (bs : List (BitVec 8)) (hl : bs.length ≤ 1000000) : Spec Try.prog 61 [.sl (bT bs)] [] (.tup [.t (.agg (oneV bs).1.cells) true, .t (.b (oneV bs).2) true]) := by
  refine spec_k (hold mixed) b_ref03_one [(.agg (oneV bs).1.cells, true), (.b (oneV bs).2, true)] ?_
  by_cases h12 : bs.length < 12
  · have e12 : ((bs.length : Int) < 12) = True := eq_true (by omega)
    simp -implicitDefEqProofs only [go_sem, reduceIte, Nat.reduceAdd, Nat.reduceSub, Nat.reduceMul, Nat.reduceLT, Nat.reduceLeDiff, Nat.reduceEqDiff, Nat.reduceBEq, Int.reduceLE, Int.reduceLT, Int.reduceToNat, Int.reduceMul, Int.reduceAdd, Int.reduceSub, Int.reduceNeg, Int.reduceEq, reduceCtorEq, Nat.reduceMod, e12, oneV_short h12, Rec.cells]
    rfl
  · obtain ⟨b0, b1, b2, b3, c0, c1, c2, c3, d0, d1, d2, d3, bs', rfl⟩ := long_split h12
    have hbl : bs'.length + 12 ≤ 1000000 := by simp only [List.length_cons] at hl; omega
    have e12 : (((bs'.length + 1 + 1 + 1 + 1 + 1 + 1 + 1 + 1 + 1 + 1 + 1 + 1 : Nat) : Int) < 12) = False := eq_false (by omega)
    simp -implicitDefEqProofs only [go_sem, reduceIte, Nat.reduceAdd, Nat.reduceSub, Nat.reduceMul, Nat.reduceLT, Nat.reduceLeDiff, Nat.reduceEqDiff, Nat.reduceBEq, Int.reduceLE, Int.reduceLT, Int.reduceToNat, Int.reduceMul, Int.reduceAdd, Int.reduceSub, Int.reduceNeg, Int.reduceEq, reduceCtorEq, Nat.reduceMod, e12]
    refine call_k (s_ref03_number b0 b1 b2 b3 (c0 :: c1 :: c2 :: c3 :: d0 :: d1 :: d2 :: d3 :: bs') (by simp only [List.length_cons]; omega)) ?_
    have wb : IntKind.i64.wrap (12 + ((numL b0 b1 b2 b3 : Nat) : Int)) = ((12 + numL b0 b1 b2 b3 : Nat) : Int) := by
      have := (getV b0 b1 b2 b3 4).isLt
      have hb := getV_num b0 b1 b2 b3
      rw [wrap_i64_id (by omega) (by omega)]; omega
    by_cases g1 : 1000 < numL b0 b1 b2 b3
    · have f1 : (((numL b0 b1 b2 b3 : Nat) : Int) > 1000) = True := eq_true (by omega)
      have hv : oneV (b0 :: b1 :: b2 :: b3 :: c0 :: c1 :: c2 :: c3 :: d0 :: d1 :: d2 :: d3 :: bs') = (⟨0, []⟩, false) := by
        simp only [oneV]; rw [if_neg (by omega)]
      simp -implicitDefEqProofs only [go_sem, reduceIte, Nat.reduceAdd, Nat.reduceSub, Nat.reduceMul, Nat.reduceLT, Nat.reduceLeDiff, Nat.reduceEqDiff, Nat.reduceBEq, Int.reduceLE, Int.reduceLT, Int.reduceToNat, Int.reduceMul, Int.reduceAdd, Int.reduceSub, Int.reduceNeg, Int.reduceEq, reduceCtorEq, Nat.reduceMod, f1, hv, Rec.cells]
      rfl
    have f1 : (((numL b0 b1 b2 b3 : Nat) : Int) > 1000) = False := eq_false (by omega)
    by_cases g2 : bs'.length < numL b0 b1 b2 b3
    · have f2 : (((bs'.length + 1 + 1 + 1 + 1 + 1 + 1 + 1 + 1 + 1 + 1 + 1 + 1 : Nat) : Int) < ((12 + numL b0 b1 b2 b3 : Nat) : Int)) = True := eq_true (by omega)
      have hv : oneV (b0 :: b1 :: b2 :: b3 :: c0 :: c1 :: c2 :: c3 :: d0 :: d1 :: d2 :: d3 :: bs') = (⟨0, []⟩, false) := by
        simp only [oneV]; rw [if_neg (by omega)]
      simp -implicitDefEqProofs only [go_sem, reduceIte, Nat.reduceAdd, Nat.reduceSub, Nat.reduceMul, Nat.reduceLT, Nat.reduceLeDiff, Nat.reduceEqDiff, Nat.reduceBEq, Int.reduceLE, Int.reduceLT, Int.reduceToNat, Int.reduceMul, Int.reduceAdd, Int.reduceSub, Int.reduceNeg, Int.reduceEq, reduceCtorEq, Nat.reduceMod, f1, wb, f2, hv, Rec.cells]
      rfl
    have f2 : (((bs'.length + 1 + 1 + 1 + 1 + 1 + 1 + 1 + 1 + 1 + 1 + 1 + 1 : Nat) : Int) < ((12 + numL b0 b1 b2 b3 : Nat) : Int)) = False := eq_false (by omega)
    have e4 : List.take (((bs'.length + 1 + 1 + 1 + 1 + 1 + 1 + 1 + 1 + 1 + 1 + 1 + 1 : Nat) : Int) - 4).toNat (List.drop 4 (bT (b0 :: b1 :: b2 :: b3 :: c0 :: c1 :: c2 :: c3 :: d0 :: d1 :: d2 :: d3 :: bs'))) = bT (c0 :: c1 :: c2 :: c3 :: d0 :: d1 :: d2 :: d3 :: bs') :=
      bT_rest (b0 :: b1 :: b2 :: b3 :: c0 :: c1 :: c2 :: c3 :: d0 :: d1 :: d2 :: d3 :: bs') 4 (by simp)
    have ed : List.take (((12 + numL b0 b1 b2 b3 : Nat) : Int) - 12).toNat (List.drop 12 (bT (b0 :: b1 :: b2 :: b3 :: c0 :: c1 :: c2 :: c3 :: d0 :: d1 :: d2 :: d3 :: bs'))) = bT (bs'.take (numL b0 b1 b2 b3)) := by
      rw [show (((12 + numL b0 b1 b2 b3 : Nat) : Int) - 12).toNat = numL b0 b1 b2 b3 by omega, bT_dropN, bT_takeN]
      rfl
    simp -implicitDefEqProofs only [go_sem, reduceIte, Nat.reduceAdd, Nat.reduceSub, Nat.reduceMul, Nat.reduceLT, Nat.reduceLeDiff, Nat.reduceEqDiff, Nat.reduceBEq, Int.reduceLE, Int.reduceLT, Int.reduceToNat, Int.reduceMul, Int.reduceAdd, Int.reduceSub, Int.reduceNeg, Int.reduceEq, reduceCtorEq, Nat.reduceMod, f1, wb, f2]
    refine ⟨⟨⟨by omega, by omega⟩, okEs_bT _⟩, ?_⟩
    refine call_d (s_ref03_number c0 c1 c2 c3 (d0 :: d1 :: d2 :: d3 :: bs') (by simp only [List.length_cons]; omega)) ?_ (by simp -implicitDefEqProofs only [go_sem, reduceIte, Nat.reduceAdd, Nat.reduceSub, Nat.reduceMul, Nat.reduceLT, Nat.reduceLeDiff, Nat.reduceEqDiff, Nat.reduceBEq, Int.reduceLE, Int.reduceLT, Int.reduceToNat, Int.reduceMul, Int.reduceAdd, Int.reduceSub, Int.reduceNeg, Int.reduceEq, reduceCtorEq, Nat.reduceMod, e4])
    simp -implicitDefEqProofs only [go_sem, reduceIte, Nat.reduceAdd, Nat.reduceSub, Nat.reduceMul, Nat.reduceLT, Nat.reduceLeDiff, Nat.reduceEqDiff, Nat.reduceBEq, Int.reduceLE, Int.reduceLT, Int.reduceToNat, Int.reduceMul, Int.reduceAdd, Int.reduceSub, Int.reduceNeg, Int.reduceEq, reduceCtorEq, Nat.reduceMod, wb, ed]
    have htl : (bs'.take (numL b0 b1 b2 b3)).length = numL b0 b1 b2 b3 := by rw [List.length_take]; omega
    refine ⟨⟨⟨by omega, by omega⟩, okEs_bT _⟩, ⟨okEs_bT _, by unfold room; omega⟩, ?_⟩
    refine call_d (s_ref03_Valid ⟨numL c0 c1 c2 c3, bs'.take (numL b0 b1 b2 b3)⟩) ?_ (by simp -implicitDefEqProofs only [go_sem, reduceIte, Nat.reduceAdd, Nat.reduceSub, Nat.reduceMul, Nat.reduceLT, Nat.reduceLeDiff, Nat.reduceEqDiff, Nat.reduceBEq, Int.reduceLE, Int.reduceLT, Int.reduceToNat, Int.reduceMul, Int.reduceAdd, Int.reduceSub, Int.reduceNeg, Int.reduceEq, reduceCtorEq, Nat.reduceMod, Rec.cells, bT_take_self])
    have hv : oneV (b0 :: b1 :: b2 :: b3 :: c0 :: c1 :: c2 :: c3 :: d0 :: d1 :: d2 :: d3 :: bs') = (⟨numL c0 c1 c2 c3, bs'.take (numL b0 b1 b2 b3)⟩, (⟨numL c0 c1 c2 c3, bs'.take (numL b0 b1 b2 b3)⟩ : Rec).ok && startsL (b0 :: b1 :: b2 :: b3 :: c0 :: c1 :: c2 :: c3 :: d0 :: d1 :: d2 :: d3 :: bs') (bytesL ⟨numL c0 c1 c2 c3, bs'.take (numL b0 b1 b2 b3)⟩)) := by
      simp only [oneV]; rw [if_pos ⟨by omega, by omega⟩]
    cases hok : (⟨numL c0 c1 c2 c3, bs'.take (numL b0 b1 b2 b3)⟩ : Rec).ok with
    | false =>
      rw [hok] at hv
      simp -implicitDefEqProofs only [go_sem, reduceIte, Nat.reduceAdd, Nat.reduceSub, Nat.reduceMul, Nat.reduceLT, Nat.reduceLeDiff, Nat.reduceEqDiff, Nat.reduceBEq, Int.reduceLE, Int.reduceLT, Int.reduceToNat, Int.reduceMul, Int.reduceAdd, Int.reduceSub, Int.reduceNeg, Int.reduceEq, reduceCtorEq, Nat.reduceMod, hok, hv, Rec.cells, bT_take_self]
    | true =>
      rw [hok] at hv
      obtain ⟨g0, g1', g2'⟩ := (Rec.ok_iff _).1 hok
      simp -implicitDefEqProofs only [go_sem, reduceIte, Nat.reduceAdd, Nat.reduceSub, Nat.reduceMul, Nat.reduceLT, Nat.reduceLeDiff, Nat.reduceEqDiff, Nat.reduceBEq, Int.reduceLE, Int.reduceLT, Int.reduceToNat, Int.reduceMul, Int.reduceAdd, Int.reduceSub, Int.reduceNeg, Int.reduceEq, reduceCtorEq, Nat.reduceMod, hok]
      refine call_d (s_ref03_Bytes ⟨numL c0 c1 c2 c3, bs'.take (numL b0 b1 b2 b3)⟩ g0 g1' g2') ?_ (by simp -implicitDefEqProofs only [go_sem, reduceIte, Nat.reduceAdd, Nat.reduceSub, Nat.reduceMul, Nat.reduceLT, Nat.reduceLeDiff, Nat.reduceEqDiff, Nat.reduceBEq, Int.reduceLE, Int.reduceLT, Int.reduceToNat, Int.reduceMul, Int.reduceAdd, Int.reduceSub, Int.reduceNeg, Int.reduceEq, reduceCtorEq, Nat.reduceMod, Rec.cells, bT_take_self])
      simp -implicitDefEqProofs only [go_sem, reduceIte, Nat.reduceAdd, Nat.reduceSub, Nat.reduceMul, Nat.reduceLT, Nat.reduceLeDiff, Nat.reduceEqDiff, Nat.reduceBEq, Int.reduceLE, Int.reduceLT, Int.reduceToNat, Int.reduceMul, Int.reduceAdd, Int.reduceSub, Int.reduceNeg, Int.reduceEq, reduceCtorEq, Nat.reduceMod]
      refine call_d (s_ref01_Starts (b0 :: b1 :: b2 :: b3 :: c0 :: c1 :: c2 :: c3 :: d0 :: d1 :: d2 :: d3 :: bs') (bytesL ⟨numL c0 c1 c2 c3, bs'.take (numL b0 b1 b2 b3)⟩) hl (by rw [bytesL_length]; simp only; omega)) ?_ (by simp -implicitDefEqProofs only [go_sem, reduceIte, Nat.reduceAdd, Nat.reduceSub, Nat.reduceMul, Nat.reduceLT, Nat.reduceLeDiff, Nat.reduceEqDiff, Nat.reduceBEq, Int.reduceLE, Int.reduceLT, Int.reduceToNat, Int.reduceMul, Int.reduceAdd, Int.reduceSub, Int.reduceNeg, Int.reduceEq, reduceCtorEq, Nat.reduceMod, bT_take_self])
      simp -implicitDefEqProofs only [go_sem, reduceIte, Nat.reduceAdd, Nat.reduceSub, Nat.reduceMul, Nat.reduceLT, Nat.reduceLeDiff, Nat.reduceEqDiff, Nat.reduceBEq, Int.reduceLE, Int.reduceLT, Int.reduceToNat, Int.reduceMul, Int.reduceAdd, Int.reduceSub, Int.reduceNeg, Int.reduceEq, reduceCtorEq, Nat.reduceMod, hv, Rec.cells, bT_take_self]
/-- The loop of the reference's scan. -/
def foundS (bs : List (BitVec 8)) (m : List Rec) : S := ⟨tmL [(0, .t (.sl (bT bs)) false), (4, .row 0 m.length 0 m.length), (5, .t (.i .i64 (catR m).length) true)], [.row m.length 2 (recsT m) true]⟩
theorem s_ref03_Found (bs : List (BitVec 8)) (hl : bs.length ≤ 1000000) : Spec Try.prog 51 [.sl (bT bs)] [] (.tup [.t (.sl (recsT (scanL bs))) true, .t (.i .i64 (catR (scanL bs)).length) true]) := by
  refine spec_k (hold mixed) b_ref03_Found [(.sl (recsT (scanL bs)), true), (.i .i64 (catR (scanL bs)).length, true)] ?_
  simp -implicitDefEqProofs only [go_sem, reduceIte, Nat.reduceAdd, Nat.reduceSub, Nat.reduceMul, Nat.reduceLT, Nat.reduceLeDiff, Nat.reduceEqDiff, Nat.reduceBEq, Int.reduceLE, Int.reduceLT, Int.reduceToNat, Int.reduceMul, Int.reduceAdd, Int.reduceSub, Int.reduceNeg, Int.reduceEq, reduceCtorEq, Nat.reduceMod]
  refine loop_l (α := Nat × List Rec) (fun p => foundS bs p.2) (fun p => p.1) (fun p => ScanOK bs p.2 ∧ scanF bs p.1 p.2 = scanL bs ∧ bs.length < p.1 + (catR p.2).length) (bs.length + 1, []) (by simp -implicitDefEqProofs only [go_sem, reduceIte, Nat.reduceAdd, Nat.reduceSub, Nat.reduceMul, Nat.reduceLT, Nat.reduceLeDiff, Nat.reduceEqDiff, Nat.reduceBEq, Int.reduceLE, Int.reduceLT, Int.reduceToNat, Int.reduceMul, Int.reduceAdd, Int.reduceSub, Int.reduceNeg, Int.reduceEq, reduceCtorEq, Nat.reduceMod]; rfl) ⟨scanOK_nil bs, rfl, by simp [catR]⟩ ?_
  rintro ⟨n, M⟩ ⟨hok, hF, hn⟩ R hR
  simp only at hok hF hn hR
  have hle : (catR M).length ≤ bs.length := by
    obtain ⟨q, hq⟩ := hok.bytes
    have := congrArg List.length hq
    rw [List.length_append] at this
    omega
  obtain ⟨n, rfl⟩ : ∃ k, n = k + 1 := ⟨n - 1, by omega⟩
  have hlei : (((catR M).length : Nat) : Int) ≤ ((bs.length : Nat) : Int) := by omega
  have hcm := catR_many M
  have wM : IntKind.i64.wrap ((M.length : Int) - 1) = (((M.length : Int) - 1)) := wrap_i64_id (by omega) (by omega)
  have eM : List.take M.length (recsT M) = recsT M := List.take_of_length_le (by rw [recsT_length]; exact Nat.le_refl _)
  simp -implicitDefEqProofs only [go_sem, reduceIte, Nat.reduceAdd, Nat.reduceSub, Nat.reduceMul, Nat.reduceLT, Nat.reduceLeDiff, Nat.reduceEqDiff, Nat.reduceBEq, Int.reduceLE, Int.reduceLT, Int.reduceToNat, Int.reduceMul, Int.reduceAdd, Int.reduceSub, Int.reduceNeg, Int.reduceEq, reduceCtorEq, Nat.reduceMod, foundS, hlei, bT_rest bs _ hle, Int.le_refl]
  refine ⟨.inr (okEs_bT bs), ?_⟩
  refine call_k (s_ref03_one (bs.drop (catR M).length) (by rw [List.length_drop]; omega)) ?_
  cases hv : (oneV (bs.drop (catR M).length)).2 with
  | false =>
    have hnx : nextL bs M = none := by unfold nextL; rw [oneV_false hv]
    have hM : scanL bs = M := by rw [← hF, scanF, hnx]
    simp -implicitDefEqProofs only [go_sem, reduceIte, Nat.reduceAdd, Nat.reduceSub, Nat.reduceMul, Nat.reduceLT, Nat.reduceLeDiff, Nat.reduceEqDiff, Nat.reduceBEq, Int.reduceLE, Int.reduceLT, Int.reduceToNat, Int.reduceMul, Int.reduceAdd, Int.reduceSub, Int.reduceNeg, Int.reduceEq, reduceCtorEq, Nat.reduceMod, hv, Rec.cells, hM, recsT_length, eM]
  | true =>
    have ho := oneV_true hv
    generalize (oneV (bs.drop (catR M).length)).1 = r at ho
    obtain ⟨hrok, q, hq⟩ := oneL_some ho
    obtain ⟨r0, r1, r2⟩ := r.ok_iff.1 hrok
    have wl : IntKind.i64.wrap (12 + (r.data.length : Int)) = ((12 + r.data.length : Nat) : Int) := by rw [wrap_i64_id (by omega) (by omega)]; omega
    have hdone : ∀ (hnx : nextL bs M = some r), IntKind.i64.wrap (((catR M).length : Int) + ((12 + r.data.length : Nat) : Int)) = (((catR (M ++ [r])).length : Nat) : Int) := fun hnx => by
      have := (nextL_len hnx hle).2
      rw [wrap_i64_id (by omega) (by omega)]; omega
    have e1 : recsT M ++ [[T.i .i64 r.num, T.sl (bT r.data)]] = recsT (M ++ [r]) := by simp [recsT, Rec.cells]
    have e2 : (M ++ [r]).length = M.length + 1 := by simp
    have goon : ∀ (hnx : nextL bs M = some r), ScanOK bs (M ++ [r]) ∧ scanF bs n (M ++ [r]) = scanL bs ∧ bs.length < n + (catR (M ++ [r])).length := fun hnx => by
      have := (nextL_len hnx hle).2
      exact ⟨scanOK_step hok hnx, by rw [← hF, scanF, hnx], by omega⟩
    by_cases h0 : M = []
    · subst h0
      have hnx : nextL bs [] = some r := by unfold nextL; rw [ho]; rfl
      simp -implicitDefEqProofs only [go_sem, reduceIte, Nat.reduceAdd, Nat.reduceSub, Nat.reduceMul, Nat.reduceLT, Nat.reduceLeDiff, Nat.reduceEqDiff, Nat.reduceBEq, Int.reduceLE, Int.reduceLT, Int.reduceToNat, Int.reduceMul, Int.reduceAdd, Int.reduceSub, Int.reduceNeg, Int.reduceEq, reduceCtorEq, Nat.reduceMod, hv, Rec.cells, List.length_nil, Int.natCast_zero, gt_iff_lt, Int.lt_irrefl, wl]
      refine ⟨⟨by simp [okEs, T.one], by unfold room; omega⟩, hR (n, [r]) _ ?_ (goon hnx) (Nat.lt_succ_self _)⟩
      simp -implicitDefEqProofs only [go_sem, reduceIte, Nat.reduceAdd, Nat.reduceSub, Nat.reduceMul, Nat.reduceLT, Nat.reduceLeDiff, Nat.reduceEqDiff, Nat.reduceBEq, Int.reduceLE, Int.reduceLT, Int.reduceToNat, Int.reduceMul, Int.reduceAdd, Int.reduceSub, Int.reduceNeg, Int.reduceEq, reduceCtorEq, Nat.reduceMod, foundS, hdone hnx]
      rfl
    · obtain ⟨p, hp⟩ : ∃ p, M.getLast? = some p := by
        cases hx : M.getLast? with
        | none => exact (h0 (List.getLast?_eq_none_iff.1 hx)).elim
        | some p => exact ⟨p, rfl⟩
      have hpos : 0 < M.length := List.length_pos_iff.2 h0
      have hgt : ((M.length : Int) > 0) = True := eq_true (by omega)
      have hw1 : IntKind.i64.wrap ((M.length : Int) - 1) = ((M.length - 1 : Nat) : Int) := by
        rw [wrap_i64_id (by omega) (by omega)]; omega
      have hpm : p ∈ M := List.mem_of_getLast? hp
      obtain ⟨k0, k1, k2⟩ := p.ok_iff.1 (hok.ok p hpm)
      have wp : IntKind.i64.wrap (p.num + 1) = p.num + 1 := wrap_i64_id (by omega) (by omega)
      have hlt1 : (((M.length - 1 : Nat) : Int) < (M.length : Int)) = True := eq_true (by omega)
      have hget : (recsT M)[M.length - 1]? = some p.cells := by
        rw [List.getLast?_eq_getElem?] at hp
        simp [recsT, hp]
      by_cases g5 : r.num = p.num + 1
      · have f5 : (r.num != p.num + 1) = false := by rw [g5]; simp
        have hnx : nextL bs M = some r := by unfold nextL; rw [ho]; simp only [hp]; rw [if_pos g5]
        simp -implicitDefEqProofs only [go_sem, reduceIte, Nat.reduceAdd, Nat.reduceSub, Nat.reduceMul, Nat.reduceLT, Nat.reduceLeDiff, Nat.reduceEqDiff, Nat.reduceBEq, Int.reduceLE, Int.reduceLT, Int.reduceToNat, Int.reduceMul, Int.reduceAdd, Int.reduceSub, Int.reduceNeg, Int.reduceEq, reduceCtorEq, Nat.reduceMod, hv, Rec.cells, hgt, hw1, hlt1, hget, wp, f5, recsT_length, wl]
        refine ⟨⟨by simp [okEs, T.one], by unfold room; omega⟩, hR (n, M ++ [r]) _ ?_ (goon hnx) (Nat.lt_succ_self _)⟩
        simp -implicitDefEqProofs only [go_sem, reduceIte, Nat.reduceAdd, Nat.reduceSub, Nat.reduceMul, Nat.reduceLT, Nat.reduceLeDiff, Nat.reduceEqDiff, Nat.reduceBEq, Int.reduceLE, Int.reduceLT, Int.reduceToNat, Int.reduceMul, Int.reduceAdd, Int.reduceSub, Int.reduceNeg, Int.reduceEq, reduceCtorEq, Nat.reduceMod, foundS, hdone hnx, eM, e1, e2]
      · have f5 : (r.num != p.num + 1) = true := by rw [bne_iff_ne]; exact g5
        have hnx : nextL bs M = none := by unfold nextL; rw [ho]; simp only [hp]; rw [if_neg g5]
        have hM : scanL bs = M := by rw [← hF, scanF, hnx]
        simp -implicitDefEqProofs only [go_sem, reduceIte, Nat.reduceAdd, Nat.reduceSub, Nat.reduceMul, Nat.reduceLT, Nat.reduceLeDiff, Nat.reduceEqDiff, Nat.reduceBEq, Int.reduceLE, Int.reduceLT, Int.reduceToNat, Int.reduceMul, Int.reduceAdd, Int.reduceSub, Int.reduceNeg, Int.reduceEq, reduceCtorEq, Nat.reduceMod, hv, Rec.cells, hgt, hw1, hlt1, hget, wp, f5, recsT_length, hM, eM]
end Go.Proofs.Ytadnjellfiafaaa.Pm
