/- frame: scans. No law of Go's is stated here. -/
import Derived.Test.YtadnjellfiafaaaPmFi
set_option linter.all false
set_option maxRecDepth 100000
namespace Go.Proofs.Ytadnjellfiafaaa.Pm
open Go Go.RowKit

/-- Within a stretch with two labels: what holds where the run goes. -/
def jmp (l0 l1 : Nat) (J0 J1 : Nat → S → Prop) (l n : Nat) (s : S) : Prop := (l = l0 ∧ J0 n s) ∨ (l = l1 ∧ J1 n s)
def gotoF (x : Cx) (f : Ex → S → Prop) (k : Kont) (J : Nat → Nat → S → Prop) (e : Ex) (s : S) : Prop := match e with
  | .g l => ∃ n, J l n s
  | e => runK x f k e s
def gotoN (x : Cx) (f : Ex → S → Prop) (k : Kont) (J : Nat → Nat → S → Prop) (n : Nat) (e : Ex) (s : S) : Prop := match e with
  | .g l => ∃ n', n' < n ∧ J l n' s
  | e => runK x f k e s
section
variable (x : Cx) (f : Ex → S → Prop) (k : Kont) (J : Nat → Nat → S → Prop) (n : Nat) (s : S)
theorem gotoF_g (l : Nat) : gotoF x f k J (.g l) s = ∃ n, J l n s := rfl
theorem gotoF_r : gotoF x f k J .r s = Rk x f k .r s .mk := rfl
theorem gotoF_n : gotoF x f k J .n s = Rk x f k .n s .mk := rfl
theorem gotoN_g (l : Nat) : gotoN x f k J n (.g l) s = ∃ n', n' < n ∧ J l n' s := rfl
theorem gotoN_r : gotoN x f k J n .r s = Rk x f k .r s .mk := rfl
theorem gotoN_n : gotoN x f k J n .n s = Rk x f k .n s .mk := rfl
end
attribute [go_sem ↓] gotoF_g gotoF_r gotoF_n gotoN_g gotoN_r gotoN_n
theorem scope_2 {x : Cx} {f : Ex → S → Prop} {k : Kont} {ad : List (Nat × Nat)} {mk : List Nat} {c c0 c1 : C} {l0 l1 : Nat} {s : S} {l : Lock (f, k, c, [(l0, c0), (l1, c1)])} (J0 J1 : Nat → S → Prop) (hne : l0 ≠ l1)
    (h1 : Wk x (gotoF x f k (jmp l0 l1 J0 J1)) .base c s .mk)
    (h2 : ∀ n s, J0 n s → ∃ m, Wk x (gotoN x f k (jmp l0 l1 J0 J1) n) .base c0 (cut mk m (adopt ad s)) .mk)
    (h3 : ∀ n s, J1 n s → ∃ m, Wk x (gotoN x f k (jmp l0 l1 J0 J1) n) .base c1 (cut mk m (adopt ad s)) .mk) : Gk x f k ad mk c [(l0, c0), (l1, c1)] s l := by
  refine ⟨jmp l0 l1 J0 J1, h1, ?_⟩
  rintro l n s (⟨rfl, h⟩ | ⟨rfl, h⟩)
  · obtain ⟨m, hm⟩ := h2 n s h
    refine ⟨m, ?_⟩
    simp only [Ws, if_true]
    exact hm
  · obtain ⟨m, hm⟩ := h3 n s h
    refine ⟨m, ?_⟩
    simp only [Ws, if_neg hne, if_true]
    exact hm
/-- A walk through a stretch that two runs share, whatever follows. -/
theorem Wk_base (x : Cx) (f : Ex → S → Prop) (k : Kont) (c : C) (s : S) (l : Lock f) : Wk x f k c s l = Wk x (fun e s' => Rk x f k e s' .mk) .base c s .mk := rfl
def scanV (r : Rec) : List AV := [.t (.i .i64 r.num) true, .t (.sl (bT r.data)) true]
def scanG (bs : List (BitVec 8)) (m : List Rec) (ver : Nat) (b0 b1 : Blk) : S := ⟨tmL [(0, .t (.sl (bT bs)) false), (5, .row 2 ver 0 m.length), (6, .ptr 0 0), (7, .t (.i .i64 (catR m).length) true)], [b0, b1, .row ver 2 (recsT m) true]⟩
def scanE (bs : List (BitVec 8)) (b0 : Blk) : S := ⟨tmL [(0, .t (.sl (bT bs)) false), (5, .row 1 0 0 0), (6, .ptr 0 0), (7, .t (.i .i64 0) true)], [b0, .row 0 2 [] true]⟩
theorem catR_many (l : List Rec) : 12 * l.length ≤ (catR l).length := by
  induction l with
  | nil => simp
  | cons r l ih =>
    have : catR (r :: l) = bytesL r ++ catR l := by unfold catR; rw [List.map_cons, List.flatten_cons]
    rw [this, List.length_append, bytesL_length, List.length_cons]
    omega
theorem scan_same : c_frame_Scan_52 = c_frame_Scan_24 := rfl
theorem bT_rest (bs : List (BitVec 8)) (k : Nat) (hk : k ≤ bs.length) : List.take ((bs.length : Int) - (k : Int)).toNat (List.drop k (bT bs)) = bT (bs.drop k) := by
  rw [bT_dropN, List.take_of_length_le]
  rw [bT_length, List.length_drop]
  omega
theorem long_split {q : List (BitVec 8)} (h : ¬ q.length < 12) : ∃ b0 b1 b2 b3 c0 c1 c2 c3 d0 d1 d2 d3 bs, q = b0 :: b1 :: b2 :: b3 :: c0 :: c1 :: c2 :: c3 :: d0 :: d1 :: d2 :: d3 :: bs := by
  obtain ⟨x0, q, rfl⟩ := List.exists_cons_of_length_pos (l := q) (by omega)
  obtain ⟨x1, q, rfl⟩ := List.exists_cons_of_length_pos (l := q) (by simp only [List.length_cons] at h; omega)
  obtain ⟨x2, q, rfl⟩ := List.exists_cons_of_length_pos (l := q) (by simp only [List.length_cons] at h; omega)
  obtain ⟨x3, q, rfl⟩ := List.exists_cons_of_length_pos (l := q) (by simp only [List.length_cons] at h; omega)
  obtain ⟨x4, q, rfl⟩ := List.exists_cons_of_length_pos (l := q) (by simp only [List.length_cons] at h; omega)
  obtain ⟨x5, q, rfl⟩ := List.exists_cons_of_length_pos (l := q) (by simp only [List.length_cons] at h; omega)
  obtain ⟨x6, q, rfl⟩ := List.exists_cons_of_length_pos (l := q) (by simp only [List.length_cons] at h; omega)
  obtain ⟨x7, q, rfl⟩ := List.exists_cons_of_length_pos (l := q) (by simp only [List.length_cons] at h; omega)
  obtain ⟨x8, q, rfl⟩ := List.exists_cons_of_length_pos (l := q) (by simp only [List.length_cons] at h; omega)
  obtain ⟨x9, q, rfl⟩ := List.exists_cons_of_length_pos (l := q) (by simp only [List.length_cons] at h; omega)
  obtain ⟨x10, q, rfl⟩ := List.exists_cons_of_length_pos (l := q) (by simp only [List.length_cons] at h; omega)
  obtain ⟨x11, q, rfl⟩ := List.exists_cons_of_length_pos (l := q) (by simp only [List.length_cons] at h; omega)
  exact ⟨_, _, _, _, _, _, _, _, _, _, _, _, _, rfl⟩
theorem scan_round (bs : List (BitVec 8)) (hl : bs.length ≤ 20000) (M : List Rec) (hm : (catR M).length ≤ bs.length) (hM : M ≠ []) (hok : ∀ r ∈ M, r.ok = true) (ver : Nat) (a b : AV) (b1 : Blk) (f : Ex → S → Prop)
    (h0 : ∀ r s', nextL bs M = some r → (∃ b1, cut [0, 5, 6, 7] 3 (adopt [(5, 2)] s') = scanG bs (M ++ [r]) (ver + 1) (.var (scanV r)) b1) → f (.g 0) s')
    (h1 : ∀ s', nextL bs M = none → (∃ b0 b1, cut [0, 5, 6, 7] 3 (adopt [(5, 2)] s') = scanG bs M ver b0 b1) → f (.g 1) s') : Wk X f .base c_frame_Scan_24 (scanG bs M ver (.var [a, b]) b1) .mk := by
  have hle : (((catR M).length : Nat) : Int) ≤ ((bs.length : Nat) : Int) := by omega
  simp -implicitDefEqProofs only [go_sem, reduceIte, Nat.reduceAdd, Nat.reduceSub, Nat.reduceMul, Nat.reduceLT, Nat.reduceLeDiff, Nat.reduceEqDiff, Nat.reduceBEq, Int.reduceLE, Int.reduceLT, Int.reduceToNat, Int.reduceMul, Int.reduceAdd, Int.reduceSub, Int.reduceNeg, Int.reduceEq, reduceCtorEq, Nat.reduceMod, scanG, hle, bT_rest bs _ hm, Int.le_refl]
  refine ⟨.inr (okEs_bT bs), ?_⟩
  generalize hq : bs.drop (catR M).length = q
  by_cases h12 : q.length < 12
  · have e12 : ((q.length : Int) < 12) = True := eq_true (by omega)
    simp -implicitDefEqProofs only [go_sem, reduceIte, Nat.reduceAdd, Nat.reduceSub, Nat.reduceMul, Nat.reduceLT, Nat.reduceLeDiff, Nat.reduceEqDiff, Nat.reduceBEq, Int.reduceLE, Int.reduceLT, Int.reduceToNat, Int.reduceMul, Int.reduceAdd, Int.reduceSub, Int.reduceNeg, Int.reduceEq, reduceCtorEq, Nat.reduceMod, e12]
    refine h1 _ ?_ ?_
    · unfold nextL
      rw [hq, oneL_short h12]
    · simp -implicitDefEqProofs only [go_sem, reduceIte, Nat.reduceAdd, Nat.reduceSub, Nat.reduceMul, Nat.reduceLT, Nat.reduceLeDiff, Nat.reduceEqDiff, Nat.reduceBEq, Int.reduceLE, Int.reduceLT, Int.reduceToNat, Int.reduceMul, Int.reduceAdd, Int.reduceSub, Int.reduceNeg, Int.reduceEq, reduceCtorEq, Nat.reduceMod, scanG]
      exact ⟨_, _, rfl⟩
  · obtain ⟨b0, b1, b2, b3, c0, c1, c2, c3, d0, d1, d2, d3, bs', rfl⟩ := long_split h12
    have hbl : (catR M).length + (bs'.length + 12) = bs.length := by
      have := congrArg List.length hq
      simp only [List.length_drop, List.length_cons] at this
      omega
    have e12 : (((bs'.length + 1 + 1 + 1 + 1 + 1 + 1 + 1 + 1 + 1 + 1 + 1 + 1 : Nat) : Int) < 12) = False := eq_false (by omega)
    simp -implicitDefEqProofs only [go_sem, reduceIte, Nat.reduceAdd, Nat.reduceSub, Nat.reduceMul, Nat.reduceLT, Nat.reduceLeDiff, Nat.reduceEqDiff, Nat.reduceBEq, Int.reduceLE, Int.reduceLT, Int.reduceToNat, Int.reduceMul, Int.reduceAdd, Int.reduceSub, Int.reduceNeg, Int.reduceEq, reduceCtorEq, Nat.reduceMod, e12]
    refine call_k (s_frame_get b0 b1 b2 b3 (c0 :: c1 :: c2 :: c3 :: d0 :: d1 :: d2 :: d3 :: bs') (by simp only [List.length_cons]; omega)) ?_
    have hb := getV_num b0 b1 b2 b3
    have hc := getV_num c0 c1 c2 c3
    have hd := getV_num d0 d1 d2 d3
    have hnone : ¬ (numL b0 b1 b2 b3 ≤ 1000 ∧ numL b0 b1 b2 b3 ≤ bs'.length ∧ numL c0 c1 c2 c3 ≤ 1000000000 ∧ getV d0 d1 d2 d3 4 = updV 0#32 ([b0, b1, b2, b3, c0, c1, c2, c3] ++ bs'.take (numL b0 b1 b2 b3))) → nextL bs M = none := fun h => by
      unfold nextL
      rw [hq]
      simp only [oneL, if_neg h]
    have w12 : IntKind.i64.wrap (((bs'.length + 1 + 1 + 1 + 1 + 1 + 1 + 1 + 1 + 1 + 1 + 1 + 1 : Nat) : Int) - 12) = (bs'.length : Int) := by rw [wrap_i64_id (by omega) (by omega)]; omega
    have wb : IntKind.i64.wrap ((numL b0 b1 b2 b3 : Nat) : Int) = ((numL b0 b1 b2 b3 : Nat) : Int) := by
      have := (getV b0 b1 b2 b3 4).isLt
      rw [wrap_i64_id (by omega) (by omega)]
    by_cases g1 : 1000 < numL b0 b1 b2 b3
    · have f1 : (((numL b0 b1 b2 b3 : Nat) : Int) > 1000) = True := eq_true (by omega)
      simp -implicitDefEqProofs only [go_sem, reduceIte, Nat.reduceAdd, Nat.reduceSub, Nat.reduceMul, Nat.reduceLT, Nat.reduceLeDiff, Nat.reduceEqDiff, Nat.reduceBEq, Int.reduceLE, Int.reduceLT, Int.reduceToNat, Int.reduceMul, Int.reduceAdd, Int.reduceSub, Int.reduceNeg, Int.reduceEq, reduceCtorEq, Nat.reduceMod, hb, f1]
      refine h1 _ (hnone (by omega)) ?_
      simp -implicitDefEqProofs only [go_sem, reduceIte, Nat.reduceAdd, Nat.reduceSub, Nat.reduceMul, Nat.reduceLT, Nat.reduceLeDiff, Nat.reduceEqDiff, Nat.reduceBEq, Int.reduceLE, Int.reduceLT, Int.reduceToNat, Int.reduceMul, Int.reduceAdd, Int.reduceSub, Int.reduceNeg, Int.reduceEq, reduceCtorEq, Nat.reduceMod, scanG]
      exact ⟨_, _, rfl⟩
    have f1 : (((numL b0 b1 b2 b3 : Nat) : Int) > 1000) = False := eq_false (by omega)
    by_cases g2 : bs'.length < numL b0 b1 b2 b3
    · have f2 : (((numL b0 b1 b2 b3 : Nat) : Int) > ((bs'.length : Nat) : Int)) = True := eq_true (by omega)
      simp -implicitDefEqProofs only [go_sem, reduceIte, Nat.reduceAdd, Nat.reduceSub, Nat.reduceMul, Nat.reduceLT, Nat.reduceLeDiff, Nat.reduceEqDiff, Nat.reduceBEq, Int.reduceLE, Int.reduceLT, Int.reduceToNat, Int.reduceMul, Int.reduceAdd, Int.reduceSub, Int.reduceNeg, Int.reduceEq, reduceCtorEq, Nat.reduceMod, hb, f1, w12, wb, f2]
      refine h1 _ (hnone (by omega)) ?_
      simp -implicitDefEqProofs only [go_sem, reduceIte, Nat.reduceAdd, Nat.reduceSub, Nat.reduceMul, Nat.reduceLT, Nat.reduceLeDiff, Nat.reduceEqDiff, Nat.reduceBEq, Int.reduceLE, Int.reduceLT, Int.reduceToNat, Int.reduceMul, Int.reduceAdd, Int.reduceSub, Int.reduceNeg, Int.reduceEq, reduceCtorEq, Nat.reduceMod, scanG]
      exact ⟨_, _, rfl⟩
    have f2 : (((numL b0 b1 b2 b3 : Nat) : Int) > ((bs'.length : Nat) : Int)) = False := eq_false (by omega)
    simp -implicitDefEqProofs only [go_sem, reduceIte, Nat.reduceAdd, Nat.reduceSub, Nat.reduceMul, Nat.reduceLT, Nat.reduceLeDiff, Nat.reduceEqDiff, Nat.reduceBEq, Int.reduceLE, Int.reduceLT, Int.reduceToNat, Int.reduceMul, Int.reduceAdd, Int.reduceSub, Int.reduceNeg, Int.reduceEq, reduceCtorEq, Nat.reduceMod, hb, f1, w12, wb, f2]
    have wc : IntKind.i64.wrap ((numL c0 c1 c2 c3 : Nat) : Int) = ((numL c0 c1 c2 c3 : Nat) : Int) := by
      have := (getV c0 c1 c2 c3 4).isLt
      rw [wrap_i64_id (by omega) (by omega)]
    have e4 : List.take (((bs'.length + 1 + 1 + 1 + 1 + 1 + 1 + 1 + 1 + 1 + 1 + 1 + 1 : Nat) : Int) - 4).toNat (List.drop 4 (bT (b0 :: b1 :: b2 :: b3 :: c0 :: c1 :: c2 :: c3 :: d0 :: d1 :: d2 :: d3 :: bs'))) = bT (c0 :: c1 :: c2 :: c3 :: d0 :: d1 :: d2 :: d3 :: bs') :=
      bT_rest (b0 :: b1 :: b2 :: b3 :: c0 :: c1 :: c2 :: c3 :: d0 :: d1 :: d2 :: d3 :: bs') 4 (by simp)
    have e8 : List.take (((bs'.length + 1 + 1 + 1 + 1 + 1 + 1 + 1 + 1 + 1 + 1 + 1 + 1 : Nat) : Int) - 8).toNat (List.drop 8 (bT (b0 :: b1 :: b2 :: b3 :: c0 :: c1 :: c2 :: c3 :: d0 :: d1 :: d2 :: d3 :: bs'))) = bT (d0 :: d1 :: d2 :: d3 :: bs') :=
      bT_rest (b0 :: b1 :: b2 :: b3 :: c0 :: c1 :: c2 :: c3 :: d0 :: d1 :: d2 :: d3 :: bs') 8 (by simp)
    have w2 : IntKind.i64.wrap (12 + ((numL b0 b1 b2 b3 : Nat) : Int)) = ((12 + numL b0 b1 b2 b3 : Nat) : Int) := by rw [wrap_i64_id (by omega) (by omega)]; omega
    have ed : List.take (((12 + numL b0 b1 b2 b3 : Nat) : Int) - 12).toNat (List.drop 12 (bT (b0 :: b1 :: b2 :: b3 :: c0 :: c1 :: c2 :: c3 :: d0 :: d1 :: d2 :: d3 :: bs'))) = bT (bs'.take (numL b0 b1 b2 b3)) := by
      rw [show (((12 + numL b0 b1 b2 b3 : Nat) : Int) - 12).toNat = numL b0 b1 b2 b3 by omega, bT_dropN, bT_takeN]
      rfl
    refine ⟨⟨⟨by omega, by omega⟩, okEs_bT _⟩, ?_⟩
    refine call_k (s_frame_get c0 c1 c2 c3 (d0 :: d1 :: d2 :: d3 :: bs') (by simp only [List.length_cons]; omega)) ?_ (by simp -implicitDefEqProofs only [go_sem, reduceIte, Nat.reduceAdd, Nat.reduceSub, Nat.reduceMul, Nat.reduceLT, Nat.reduceLeDiff, Nat.reduceEqDiff, Nat.reduceBEq, Int.reduceLE, Int.reduceLT, Int.reduceToNat, Int.reduceMul, Int.reduceAdd, Int.reduceSub, Int.reduceNeg, Int.reduceEq, reduceCtorEq, Nat.reduceMod, e4])
    simp -implicitDefEqProofs only [go_sem, reduceIte, Nat.reduceAdd, Nat.reduceSub, Nat.reduceMul, Nat.reduceLT, Nat.reduceLeDiff, Nat.reduceEqDiff, Nat.reduceBEq, Int.reduceLE, Int.reduceLT, Int.reduceToNat, Int.reduceMul, Int.reduceAdd, Int.reduceSub, Int.reduceNeg, Int.reduceEq, reduceCtorEq, Nat.reduceMod]
    refine call_k (s_frame_get b0 b1 b2 b3 (c0 :: c1 :: c2 :: c3 :: d0 :: d1 :: d2 :: d3 :: bs') (by simp only [List.length_cons]; omega)) ?_
    simp -implicitDefEqProofs only [go_sem, reduceIte, Nat.reduceAdd, Nat.reduceSub, Nat.reduceMul, Nat.reduceLT, Nat.reduceLeDiff, Nat.reduceEqDiff, Nat.reduceBEq, Int.reduceLE, Int.reduceLT, Int.reduceToNat, Int.reduceMul, Int.reduceAdd, Int.reduceSub, Int.reduceNeg, Int.reduceEq, reduceCtorEq, Nat.reduceMod, hb, hc, wb, wc, w2]
    refine ⟨⟨⟨by omega, by omega⟩, okEs_bT _⟩, ?_⟩
    refine call_k (s_bytes_Clone (bs'.take (numL b0 b1 b2 b3)) (by rw [List.length_take]; omega)) ?_ (by simp -implicitDefEqProofs only [go_sem, reduceIte, Nat.reduceAdd, Nat.reduceSub, Nat.reduceMul, Nat.reduceLT, Nat.reduceLeDiff, Nat.reduceEqDiff, Nat.reduceBEq, Int.reduceLE, Int.reduceLT, Int.reduceToNat, Int.reduceMul, Int.reduceAdd, Int.reduceSub, Int.reduceNeg, Int.reduceEq, reduceCtorEq, Nat.reduceMod, ed])
    by_cases g3 : 1000000000 < numL c0 c1 c2 c3
    · have f3 : (((numL c0 c1 c2 c3 : Nat) : Int) > 1000000000) = True := eq_true (by omega)
      simp -implicitDefEqProofs only [go_sem, reduceIte, Nat.reduceAdd, Nat.reduceSub, Nat.reduceMul, Nat.reduceLT, Nat.reduceLeDiff, Nat.reduceEqDiff, Nat.reduceBEq, Int.reduceLE, Int.reduceLT, Int.reduceToNat, Int.reduceMul, Int.reduceAdd, Int.reduceSub, Int.reduceNeg, Int.reduceEq, reduceCtorEq, Nat.reduceMod, hc, wc, f3]
      refine h1 _ (hnone (by omega)) ?_
      simp -implicitDefEqProofs only [go_sem, reduceIte, Nat.reduceAdd, Nat.reduceSub, Nat.reduceMul, Nat.reduceLT, Nat.reduceLeDiff, Nat.reduceEqDiff, Nat.reduceBEq, Int.reduceLE, Int.reduceLT, Int.reduceToNat, Int.reduceMul, Int.reduceAdd, Int.reduceSub, Int.reduceNeg, Int.reduceEq, reduceCtorEq, Nat.reduceMod, scanG]
      exact ⟨_, _, rfl⟩
    have f3 : (((numL c0 c1 c2 c3 : Nat) : Int) > 1000000000) = False := eq_false (by omega)
    simp -implicitDefEqProofs only [go_sem, reduceIte, Nat.reduceAdd, Nat.reduceSub, Nat.reduceMul, Nat.reduceLT, Nat.reduceLeDiff, Nat.reduceEqDiff, Nat.reduceBEq, Int.reduceLE, Int.reduceLT, Int.reduceToNat, Int.reduceMul, Int.reduceAdd, Int.reduceSub, Int.reduceNeg, Int.reduceEq, reduceCtorEq, Nat.reduceMod, hc, wc, f3]
    refine ⟨⟨⟨by omega, by omega⟩, okEs_bT _⟩, ?_⟩
    refine call_d (s_frame_get d0 d1 d2 d3 bs' (by omega)) ?_ (by simp -implicitDefEqProofs only [go_sem, reduceIte, Nat.reduceAdd, Nat.reduceSub, Nat.reduceMul, Nat.reduceLT, Nat.reduceLeDiff, Nat.reduceEqDiff, Nat.reduceBEq, Int.reduceLE, Int.reduceLT, Int.reduceToNat, Int.reduceMul, Int.reduceAdd, Int.reduceSub, Int.reduceNeg, Int.reduceEq, reduceCtorEq, Nat.reduceMod, e8])
    simp -implicitDefEqProofs only [go_sem, reduceIte, Nat.reduceAdd, Nat.reduceSub, Nat.reduceMul, Nat.reduceLT, Nat.reduceLeDiff, Nat.reduceEqDiff, Nat.reduceBEq, Int.reduceLE, Int.reduceLT, Int.reduceToNat, Int.reduceMul, Int.reduceAdd, Int.reduceSub, Int.reduceNeg, Int.reduceEq, reduceCtorEq, Nat.reduceMod, Int.natCast_zero]
    refine ⟨⟨by omega, .inl trivial⟩, ?_⟩
    refine call_d (s_frame_sum [b0, b1, b2, b3, c0, c1, c2, c3] (bs'.take (numL b0 b1 b2 b3)) (by simp) (by rw [List.length_take]; omega)) ?_ ?_
    · by_cases g4 : getV d0 d1 d2 d3 4 = updV 0#32 (b0 :: b1 :: b2 :: b3 :: c0 :: c1 :: c2 :: c3 :: bs'.take (numL b0 b1 b2 b3))
      · have f4 : (((getV d0 d1 d2 d3 4).toNat : Int) != ((updV 0#32 (b0 :: b1 :: b2 :: b3 :: c0 :: c1 :: c2 :: c3 :: bs'.take (numL b0 b1 b2 b3))).toNat : Int)) = false := by rw [g4]; simp
        have hone : oneL (bs.drop (catR M).length) = some ⟨numL c0 c1 c2 c3, bs'.take (numL b0 b1 b2 b3)⟩ := by
          rw [hq]
          simp only [oneL]
          rw [if_pos ⟨by omega, by omega, by omega, g4⟩]
        obtain ⟨p, hp⟩ : ∃ p, M.getLast? = some p := by
          cases hx : M.getLast? with
          | none => exact (hM (List.getLast?_eq_none_iff.1 hx)).elim
          | some p => exact ⟨p, rfl⟩
        have hpos : 0 < M.length := List.length_pos_iff.2 hM
        have hgt : ((M.length : Int) > 0) = True := eq_true (by omega)
        have hix : (M.length : Int) - 1 = ((M.length - 1 : Nat) : Int) := by omega
        have hw1 : IntKind.i64.wrap ((M.length : Int) - 1) = ((M.length - 1 : Nat) : Int) := by
          have := catR_many M
          rw [wrap_i64_id (by omega) (by omega)]; omega
        have hpm : p ∈ M := List.mem_of_getLast? hp
        obtain ⟨k0, k1, k2⟩ := p.ok_iff.1 (hok p hpm)
        have wp : IntKind.i64.wrap (p.num + 1) = p.num + 1 := wrap_i64_id (by omega) (by omega)
        have hlt1 : (((M.length - 1 : Nat) : Int) < (M.length : Int)) = True := eq_true (by omega)
        have hget : (recsT M)[M.length - 1]? = some p.cells := by
          rw [List.getLast?_eq_getElem?] at hp
          simp [recsT, hp]
        simp -implicitDefEqProofs only [go_sem, reduceIte, Nat.reduceAdd, Nat.reduceSub, Nat.reduceMul, Nat.reduceLT, Nat.reduceLeDiff, Nat.reduceEqDiff, Nat.reduceBEq, Int.reduceLE, Int.reduceLT, Int.reduceToNat, Int.reduceMul, Int.reduceAdd, Int.reduceSub, Int.reduceNeg, Int.reduceEq, reduceCtorEq, Nat.reduceMod, f4, recsT_length, hgt, hw1, hlt1, hget, Rec.cells, wp]
        by_cases g5 : p.num + 1 = (numL c0 c1 c2 c3 : Nat)
        · have f5 : (p.num + 1 != ((numL c0 c1 c2 c3 : Nat) : Int)) = false := by rw [g5]; simp
          have hnx : nextL bs M = some ⟨numL c0 c1 c2 c3, bs'.take (numL b0 b1 b2 b3)⟩ := by
            unfold nextL
            rw [hone]
            simp only [hp]
            rw [if_pos g5.symm]
          have hln := (nextL_len hnx hm).2
          simp only at hln
          have hcm := catR_many M
          have hdl : (bs'.take (numL b0 b1 b2 b3)).length = numL b0 b1 b2 b3 := by rw [List.length_take]; omega
          have wl : IntKind.i64.wrap (12 + (((bs'.take (numL b0 b1 b2 b3)).length : Nat) : Int)) = ((12 + (bs'.take (numL b0 b1 b2 b3)).length : Nat) : Int) := by rw [wrap_i64_id (by omega) (by omega)]; omega
          have wa : IntKind.i64.wrap (((catR M).length : Int) + ((12 + (bs'.take (numL b0 b1 b2 b3)).length : Nat) : Int)) = (((catR (M ++ [(⟨numL c0 c1 c2 c3, bs'.take (numL b0 b1 b2 b3)⟩ : Rec)])).length : Nat) : Int) := by rw [wrap_i64_id (by omega) (by omega)]; omega
          simp -implicitDefEqProofs only [go_sem, reduceIte, Nat.reduceAdd, Nat.reduceSub, Nat.reduceMul, Nat.reduceLT, Nat.reduceLeDiff, Nat.reduceEqDiff, Nat.reduceBEq, Int.reduceLE, Int.reduceLT, Int.reduceToNat, Int.reduceMul, Int.reduceAdd, Int.reduceSub, Int.reduceNeg, Int.reduceEq, reduceCtorEq, Nat.reduceMod, f5, wl, wa]
          refine ⟨⟨by simp [okEs, T.one], by rw [recsT_length]; exact Nat.le_refl _, by unfold room; omega⟩, h0 _ _ hnx ?_⟩
          simp -implicitDefEqProofs only [go_sem, reduceIte, Nat.reduceAdd, Nat.reduceSub, Nat.reduceMul, Nat.reduceLT, Nat.reduceLeDiff, Nat.reduceEqDiff, Nat.reduceBEq, Int.reduceLE, Int.reduceLT, Int.reduceToNat, Int.reduceMul, Int.reduceAdd, Int.reduceSub, Int.reduceNeg, Int.reduceEq, reduceCtorEq, Nat.reduceMod, scanG, scanV]
          have e1 : List.take M.length (recsT M) ++ [[T.i .i64 (numL c0 c1 c2 c3), T.sl (bT (bs'.take (numL b0 b1 b2 b3)))]] = recsT (M ++ [(⟨numL c0 c1 c2 c3, bs'.take (numL b0 b1 b2 b3)⟩ : Rec)]) := by
            rw [List.take_of_length_le (by rw [recsT_length]; exact Nat.le_refl _)]
            simp [recsT, Rec.cells]
          have e2 : (M ++ [(⟨numL c0 c1 c2 c3, bs'.take (numL b0 b1 b2 b3)⟩ : Rec)]).length = M.length + 1 := by simp
          rw [e1, e2]
          exact ⟨_, rfl⟩
        · have f5 : (p.num + 1 != ((numL c0 c1 c2 c3 : Nat) : Int)) = true := by rw [bne_iff_ne]; exact g5
          simp -implicitDefEqProofs only [go_sem, reduceIte, Nat.reduceAdd, Nat.reduceSub, Nat.reduceMul, Nat.reduceLT, Nat.reduceLeDiff, Nat.reduceEqDiff, Nat.reduceBEq, Int.reduceLE, Int.reduceLT, Int.reduceToNat, Int.reduceMul, Int.reduceAdd, Int.reduceSub, Int.reduceNeg, Int.reduceEq, reduceCtorEq, Nat.reduceMod, f5]
          refine h1 _ ?_ ?_
          · unfold nextL
            rw [hone]
            simp only [hp]
            rw [if_neg (fun e => g5 e.symm)]
          · simp -implicitDefEqProofs only [go_sem, reduceIte, Nat.reduceAdd, Nat.reduceSub, Nat.reduceMul, Nat.reduceLT, Nat.reduceLeDiff, Nat.reduceEqDiff, Nat.reduceBEq, Int.reduceLE, Int.reduceLT, Int.reduceToNat, Int.reduceMul, Int.reduceAdd, Int.reduceSub, Int.reduceNeg, Int.reduceEq, reduceCtorEq, Nat.reduceMod, scanG]
            exact ⟨_, _, rfl⟩
      · have f4 : (((getV d0 d1 d2 d3 4).toNat : Int) != ((updV 0#32 (b0 :: b1 :: b2 :: b3 :: c0 :: c1 :: c2 :: c3 :: bs'.take (numL b0 b1 b2 b3))).toNat : Int)) = true := by
          rw [bne_iff_ne]
          intro e
          exact g4 (BitVec.eq_of_toNat_eq (by omega))
        simp -implicitDefEqProofs only [go_sem, reduceIte, Nat.reduceAdd, Nat.reduceSub, Nat.reduceMul, Nat.reduceLT, Nat.reduceLeDiff, Nat.reduceEqDiff, Nat.reduceBEq, Int.reduceLE, Int.reduceLT, Int.reduceToNat, Int.reduceMul, Int.reduceAdd, Int.reduceSub, Int.reduceNeg, Int.reduceEq, reduceCtorEq, Nat.reduceMod, f4]
        refine h1 _ (hnone fun h => g4 h.2.2.2) ?_
        simp -implicitDefEqProofs only [go_sem, reduceIte, Nat.reduceAdd, Nat.reduceSub, Nat.reduceMul, Nat.reduceLT, Nat.reduceLeDiff, Nat.reduceEqDiff, Nat.reduceBEq, Int.reduceLE, Int.reduceLT, Int.reduceToNat, Int.reduceMul, Int.reduceAdd, Int.reduceSub, Int.reduceNeg, Int.reduceEq, reduceCtorEq, Nat.reduceMod, scanG]
        exact ⟨_, _, rfl⟩
    · simp -implicitDefEqProofs only [go_sem, reduceIte, Nat.reduceAdd, Nat.reduceSub, Nat.reduceMul, Nat.reduceLT, Nat.reduceLeDiff, Nat.reduceEqDiff, Nat.reduceBEq, Int.reduceLE, Int.reduceLT, Int.reduceToNat, Int.reduceMul, Int.reduceAdd, Int.reduceSub, Int.reduceNeg, Int.reduceEq, reduceCtorEq, Nat.reduceMod]
      rfl
theorem scan_first (bs : List (BitVec 8)) (hl : bs.length ≤ 20000) (f : Ex → S → Prop)
    (h0 : ∀ r s', nextL bs [] = some r → (∃ b1, cut [0, 5, 6, 7] 3 (adopt [(5, 2)] s') = scanG bs [r] 0 (.var (scanV r)) b1) → f (.g 0) s')
    (h1 : ∀ s', nextL bs [] = none → (∃ b0, cut [0, 5, 6, 7] 3 (adopt [(5, 2)] s') = scanE bs b0) → f (.g 1) s') : Wk X f .base c_frame_Scan_24 ⟨tmL [(0, .t (.sl (bT bs)) false), (5, .nl), (6, .ptr 0 0), (7, .t (.i .i64 0) true)], [.var [.t (.i .i64 0) true, .nl]]⟩ .mk := by
  have hn0 : (0 : Int) ≤ ((bs.length : Nat) : Int) := by omega
  simp -implicitDefEqProofs only [go_sem, reduceIte, Nat.reduceAdd, Nat.reduceSub, Nat.reduceMul, Nat.reduceLT, Nat.reduceLeDiff, Nat.reduceEqDiff, Nat.reduceBEq, Int.reduceLE, Int.reduceLT, Int.reduceToNat, Int.reduceMul, Int.reduceAdd, Int.reduceSub, Int.reduceNeg, Int.reduceEq, reduceCtorEq, Nat.reduceMod, hn0, Int.sub_zero, bT_take_self, Int.le_refl]
  refine ⟨.inl trivial, ?_⟩
  by_cases h12 : bs.length < 12
  · have e12 : ((bs.length : Int) < 12) = True := eq_true (by omega)
    simp -implicitDefEqProofs only [go_sem, reduceIte, Nat.reduceAdd, Nat.reduceSub, Nat.reduceMul, Nat.reduceLT, Nat.reduceLeDiff, Nat.reduceEqDiff, Nat.reduceBEq, Int.reduceLE, Int.reduceLT, Int.reduceToNat, Int.reduceMul, Int.reduceAdd, Int.reduceSub, Int.reduceNeg, Int.reduceEq, reduceCtorEq, Nat.reduceMod, e12]
    refine h1 _ ?_ ?_
    · unfold nextL
      rw [catR_nil, List.length_nil, List.drop_zero, oneL_short h12]
    · simp -implicitDefEqProofs only [go_sem, reduceIte, Nat.reduceAdd, Nat.reduceSub, Nat.reduceMul, Nat.reduceLT, Nat.reduceLeDiff, Nat.reduceEqDiff, Nat.reduceBEq, Int.reduceLE, Int.reduceLT, Int.reduceToNat, Int.reduceMul, Int.reduceAdd, Int.reduceSub, Int.reduceNeg, Int.reduceEq, reduceCtorEq, Nat.reduceMod, scanE]
      exact ⟨_, rfl⟩
  · obtain ⟨b0, b1, b2, b3, c0, c1, c2, c3, d0, d1, d2, d3, bs', rfl⟩ := long_split h12
    have hbl : bs'.length + 12 ≤ 20000 := by
      simp only [List.length_cons] at hl
      omega
    have e12 : (((bs'.length + 1 + 1 + 1 + 1 + 1 + 1 + 1 + 1 + 1 + 1 + 1 + 1 : Nat) : Int) < 12) = False := eq_false (by omega)
    simp -implicitDefEqProofs only [go_sem, reduceIte, Nat.reduceAdd, Nat.reduceSub, Nat.reduceMul, Nat.reduceLT, Nat.reduceLeDiff, Nat.reduceEqDiff, Nat.reduceBEq, Int.reduceLE, Int.reduceLT, Int.reduceToNat, Int.reduceMul, Int.reduceAdd, Int.reduceSub, Int.reduceNeg, Int.reduceEq, reduceCtorEq, Nat.reduceMod, e12]
    refine call_k (s_frame_get b0 b1 b2 b3 (c0 :: c1 :: c2 :: c3 :: d0 :: d1 :: d2 :: d3 :: bs') (by simp only [List.length_cons]; omega)) ?_
    have hb := getV_num b0 b1 b2 b3
    have hc := getV_num c0 c1 c2 c3
    have hd := getV_num d0 d1 d2 d3
    have hnone : ¬ (numL b0 b1 b2 b3 ≤ 1000 ∧ numL b0 b1 b2 b3 ≤ bs'.length ∧ numL c0 c1 c2 c3 ≤ 1000000000 ∧ getV d0 d1 d2 d3 4 = updV 0#32 ([b0, b1, b2, b3, c0, c1, c2, c3] ++ bs'.take (numL b0 b1 b2 b3))) → nextL (b0 :: b1 :: b2 :: b3 :: c0 :: c1 :: c2 :: c3 :: d0 :: d1 :: d2 :: d3 :: bs') [] = none := fun h => by
      unfold nextL
      rw [catR_nil, List.length_nil, List.drop_zero]
      simp only [oneL, if_neg h]
    have w12 : IntKind.i64.wrap (((bs'.length + 1 + 1 + 1 + 1 + 1 + 1 + 1 + 1 + 1 + 1 + 1 + 1 : Nat) : Int) - 12) = (bs'.length : Int) := by rw [wrap_i64_id (by omega) (by omega)]; omega
    have wb : IntKind.i64.wrap ((numL b0 b1 b2 b3 : Nat) : Int) = ((numL b0 b1 b2 b3 : Nat) : Int) := by
      have := (getV b0 b1 b2 b3 4).isLt
      rw [wrap_i64_id (by omega) (by omega)]
    by_cases g1 : 1000 < numL b0 b1 b2 b3
    · have f1 : (((numL b0 b1 b2 b3 : Nat) : Int) > 1000) = True := eq_true (by omega)
      simp -implicitDefEqProofs only [go_sem, reduceIte, Nat.reduceAdd, Nat.reduceSub, Nat.reduceMul, Nat.reduceLT, Nat.reduceLeDiff, Nat.reduceEqDiff, Nat.reduceBEq, Int.reduceLE, Int.reduceLT, Int.reduceToNat, Int.reduceMul, Int.reduceAdd, Int.reduceSub, Int.reduceNeg, Int.reduceEq, reduceCtorEq, Nat.reduceMod, hb, f1]
      refine h1 _ (hnone (by omega)) ?_
      simp -implicitDefEqProofs only [go_sem, reduceIte, Nat.reduceAdd, Nat.reduceSub, Nat.reduceMul, Nat.reduceLT, Nat.reduceLeDiff, Nat.reduceEqDiff, Nat.reduceBEq, Int.reduceLE, Int.reduceLT, Int.reduceToNat, Int.reduceMul, Int.reduceAdd, Int.reduceSub, Int.reduceNeg, Int.reduceEq, reduceCtorEq, Nat.reduceMod, scanE]
      exact ⟨_, rfl⟩
    have f1 : (((numL b0 b1 b2 b3 : Nat) : Int) > 1000) = False := eq_false (by omega)
    by_cases g2 : bs'.length < numL b0 b1 b2 b3
    · have f2 : (((numL b0 b1 b2 b3 : Nat) : Int) > ((bs'.length : Nat) : Int)) = True := eq_true (by omega)
      simp -implicitDefEqProofs only [go_sem, reduceIte, Nat.reduceAdd, Nat.reduceSub, Nat.reduceMul, Nat.reduceLT, Nat.reduceLeDiff, Nat.reduceEqDiff, Nat.reduceBEq, Int.reduceLE, Int.reduceLT, Int.reduceToNat, Int.reduceMul, Int.reduceAdd, Int.reduceSub, Int.reduceNeg, Int.reduceEq, reduceCtorEq, Nat.reduceMod, hb, f1, w12, wb, f2]
      refine h1 _ (hnone (by omega)) ?_
      simp -implicitDefEqProofs only [go_sem, reduceIte, Nat.reduceAdd, Nat.reduceSub, Nat.reduceMul, Nat.reduceLT, Nat.reduceLeDiff, Nat.reduceEqDiff, Nat.reduceBEq, Int.reduceLE, Int.reduceLT, Int.reduceToNat, Int.reduceMul, Int.reduceAdd, Int.reduceSub, Int.reduceNeg, Int.reduceEq, reduceCtorEq, Nat.reduceMod, scanE]
      exact ⟨_, rfl⟩
    have f2 : (((numL b0 b1 b2 b3 : Nat) : Int) > ((bs'.length : Nat) : Int)) = False := eq_false (by omega)
    simp -implicitDefEqProofs only [go_sem, reduceIte, Nat.reduceAdd, Nat.reduceSub, Nat.reduceMul, Nat.reduceLT, Nat.reduceLeDiff, Nat.reduceEqDiff, Nat.reduceBEq, Int.reduceLE, Int.reduceLT, Int.reduceToNat, Int.reduceMul, Int.reduceAdd, Int.reduceSub, Int.reduceNeg, Int.reduceEq, reduceCtorEq, Nat.reduceMod, hb, f1, w12, wb, f2]
    have wc : IntKind.i64.wrap ((numL c0 c1 c2 c3 : Nat) : Int) = ((numL c0 c1 c2 c3 : Nat) : Int) := by
      have := (getV c0 c1 c2 c3 4).isLt
      rw [wrap_i64_id (by omega) (by omega)]
    have e4 : List.take (((bs'.length + 1 + 1 + 1 + 1 + 1 + 1 + 1 + 1 + 1 + 1 + 1 + 1 : Nat) : Int) - 4).toNat (List.drop 4 (bT (b0 :: b1 :: b2 :: b3 :: c0 :: c1 :: c2 :: c3 :: d0 :: d1 :: d2 :: d3 :: bs'))) = bT (c0 :: c1 :: c2 :: c3 :: d0 :: d1 :: d2 :: d3 :: bs') :=
      bT_rest (b0 :: b1 :: b2 :: b3 :: c0 :: c1 :: c2 :: c3 :: d0 :: d1 :: d2 :: d3 :: bs') 4 (by simp)
    have e8 : List.take (((bs'.length + 1 + 1 + 1 + 1 + 1 + 1 + 1 + 1 + 1 + 1 + 1 + 1 : Nat) : Int) - 8).toNat (List.drop 8 (bT (b0 :: b1 :: b2 :: b3 :: c0 :: c1 :: c2 :: c3 :: d0 :: d1 :: d2 :: d3 :: bs'))) = bT (d0 :: d1 :: d2 :: d3 :: bs') :=
      bT_rest (b0 :: b1 :: b2 :: b3 :: c0 :: c1 :: c2 :: c3 :: d0 :: d1 :: d2 :: d3 :: bs') 8 (by simp)
    have w2 : IntKind.i64.wrap (12 + ((numL b0 b1 b2 b3 : Nat) : Int)) = ((12 + numL b0 b1 b2 b3 : Nat) : Int) := by rw [wrap_i64_id (by omega) (by omega)]; omega
    have ed : List.take (((12 + numL b0 b1 b2 b3 : Nat) : Int) - 12).toNat (List.drop 12 (bT (b0 :: b1 :: b2 :: b3 :: c0 :: c1 :: c2 :: c3 :: d0 :: d1 :: d2 :: d3 :: bs'))) = bT (bs'.take (numL b0 b1 b2 b3)) := by
      rw [show (((12 + numL b0 b1 b2 b3 : Nat) : Int) - 12).toNat = numL b0 b1 b2 b3 by omega, bT_dropN, bT_takeN]
      rfl
    refine ⟨⟨⟨by omega, by omega⟩, okEs_bT _⟩, ?_⟩
    refine call_k (s_frame_get c0 c1 c2 c3 (d0 :: d1 :: d2 :: d3 :: bs') (by simp only [List.length_cons]; omega)) ?_ (by simp -implicitDefEqProofs only [go_sem, reduceIte, Nat.reduceAdd, Nat.reduceSub, Nat.reduceMul, Nat.reduceLT, Nat.reduceLeDiff, Nat.reduceEqDiff, Nat.reduceBEq, Int.reduceLE, Int.reduceLT, Int.reduceToNat, Int.reduceMul, Int.reduceAdd, Int.reduceSub, Int.reduceNeg, Int.reduceEq, reduceCtorEq, Nat.reduceMod, e4])
    simp -implicitDefEqProofs only [go_sem, reduceIte, Nat.reduceAdd, Nat.reduceSub, Nat.reduceMul, Nat.reduceLT, Nat.reduceLeDiff, Nat.reduceEqDiff, Nat.reduceBEq, Int.reduceLE, Int.reduceLT, Int.reduceToNat, Int.reduceMul, Int.reduceAdd, Int.reduceSub, Int.reduceNeg, Int.reduceEq, reduceCtorEq, Nat.reduceMod]
    refine call_k (s_frame_get b0 b1 b2 b3 (c0 :: c1 :: c2 :: c3 :: d0 :: d1 :: d2 :: d3 :: bs') (by simp only [List.length_cons]; omega)) ?_
    simp -implicitDefEqProofs only [go_sem, reduceIte, Nat.reduceAdd, Nat.reduceSub, Nat.reduceMul, Nat.reduceLT, Nat.reduceLeDiff, Nat.reduceEqDiff, Nat.reduceBEq, Int.reduceLE, Int.reduceLT, Int.reduceToNat, Int.reduceMul, Int.reduceAdd, Int.reduceSub, Int.reduceNeg, Int.reduceEq, reduceCtorEq, Nat.reduceMod, hb, hc, wb, wc, w2]
    refine ⟨⟨⟨by omega, by omega⟩, okEs_bT _⟩, ?_⟩
    refine call_k (s_bytes_Clone (bs'.take (numL b0 b1 b2 b3)) (by rw [List.length_take]; omega)) ?_ (by simp -implicitDefEqProofs only [go_sem, reduceIte, Nat.reduceAdd, Nat.reduceSub, Nat.reduceMul, Nat.reduceLT, Nat.reduceLeDiff, Nat.reduceEqDiff, Nat.reduceBEq, Int.reduceLE, Int.reduceLT, Int.reduceToNat, Int.reduceMul, Int.reduceAdd, Int.reduceSub, Int.reduceNeg, Int.reduceEq, reduceCtorEq, Nat.reduceMod, ed])
    by_cases g3 : 1000000000 < numL c0 c1 c2 c3
    · have f3 : (((numL c0 c1 c2 c3 : Nat) : Int) > 1000000000) = True := eq_true (by omega)
      simp -implicitDefEqProofs only [go_sem, reduceIte, Nat.reduceAdd, Nat.reduceSub, Nat.reduceMul, Nat.reduceLT, Nat.reduceLeDiff, Nat.reduceEqDiff, Nat.reduceBEq, Int.reduceLE, Int.reduceLT, Int.reduceToNat, Int.reduceMul, Int.reduceAdd, Int.reduceSub, Int.reduceNeg, Int.reduceEq, reduceCtorEq, Nat.reduceMod, hc, wc, f3]
      refine h1 _ (hnone (by omega)) ?_
      simp -implicitDefEqProofs only [go_sem, reduceIte, Nat.reduceAdd, Nat.reduceSub, Nat.reduceMul, Nat.reduceLT, Nat.reduceLeDiff, Nat.reduceEqDiff, Nat.reduceBEq, Int.reduceLE, Int.reduceLT, Int.reduceToNat, Int.reduceMul, Int.reduceAdd, Int.reduceSub, Int.reduceNeg, Int.reduceEq, reduceCtorEq, Nat.reduceMod, scanE]
      exact ⟨_, rfl⟩
    have f3 : (((numL c0 c1 c2 c3 : Nat) : Int) > 1000000000) = False := eq_false (by omega)
    simp -implicitDefEqProofs only [go_sem, reduceIte, Nat.reduceAdd, Nat.reduceSub, Nat.reduceMul, Nat.reduceLT, Nat.reduceLeDiff, Nat.reduceEqDiff, Nat.reduceBEq, Int.reduceLE, Int.reduceLT, Int.reduceToNat, Int.reduceMul, Int.reduceAdd, Int.reduceSub, Int.reduceNeg, Int.reduceEq, reduceCtorEq, Nat.reduceMod, hc, wc, f3]
    refine ⟨⟨⟨by omega, by omega⟩, okEs_bT _⟩, ?_⟩
    refine call_d (s_frame_get d0 d1 d2 d3 bs' (by omega)) ?_ (by simp -implicitDefEqProofs only [go_sem, reduceIte, Nat.reduceAdd, Nat.reduceSub, Nat.reduceMul, Nat.reduceLT, Nat.reduceLeDiff, Nat.reduceEqDiff, Nat.reduceBEq, Int.reduceLE, Int.reduceLT, Int.reduceToNat, Int.reduceMul, Int.reduceAdd, Int.reduceSub, Int.reduceNeg, Int.reduceEq, reduceCtorEq, Nat.reduceMod, e8])
    simp -implicitDefEqProofs only [go_sem, reduceIte, Nat.reduceAdd, Nat.reduceSub, Nat.reduceMul, Nat.reduceLT, Nat.reduceLeDiff, Nat.reduceEqDiff, Nat.reduceBEq, Int.reduceLE, Int.reduceLT, Int.reduceToNat, Int.reduceMul, Int.reduceAdd, Int.reduceSub, Int.reduceNeg, Int.reduceEq, reduceCtorEq, Nat.reduceMod, Int.natCast_zero]
    refine ⟨⟨by omega, .inl trivial⟩, ?_⟩
    refine call_d (s_frame_sum [b0, b1, b2, b3, c0, c1, c2, c3] (bs'.take (numL b0 b1 b2 b3)) (by simp) (by rw [List.length_take]; omega)) ?_ ?_
    · by_cases g4 : getV d0 d1 d2 d3 4 = updV 0#32 (b0 :: b1 :: b2 :: b3 :: c0 :: c1 :: c2 :: c3 :: bs'.take (numL b0 b1 b2 b3))
      · have f4 : (((getV d0 d1 d2 d3 4).toNat : Int) != ((updV 0#32 (b0 :: b1 :: b2 :: b3 :: c0 :: c1 :: c2 :: c3 :: bs'.take (numL b0 b1 b2 b3))).toNat : Int)) = false := by rw [g4]; simp
        have hone : oneL (b0 :: b1 :: b2 :: b3 :: c0 :: c1 :: c2 :: c3 :: d0 :: d1 :: d2 :: d3 :: bs') = some ⟨numL c0 c1 c2 c3, bs'.take (numL b0 b1 b2 b3)⟩ := by
          simp only [oneL]
          rw [if_pos ⟨by omega, by omega, by omega, g4⟩]
        have hnx : nextL (b0 :: b1 :: b2 :: b3 :: c0 :: c1 :: c2 :: c3 :: d0 :: d1 :: d2 :: d3 :: bs') [] = some ⟨numL c0 c1 c2 c3, bs'.take (numL b0 b1 b2 b3)⟩ := by
          unfold nextL
          rw [catR_nil, List.length_nil, List.drop_zero, hone]
          rfl
        have hln := (nextL_len hnx (by simp [catR])).2
        simp only [catR_nil, List.length_nil] at hln
        have hdl : (bs'.take (numL b0 b1 b2 b3)).length = numL b0 b1 b2 b3 := by rw [List.length_take]; omega
        have wl : IntKind.i64.wrap (12 + (((bs'.take (numL b0 b1 b2 b3)).length : Nat) : Int)) = ((12 + (bs'.take (numL b0 b1 b2 b3)).length : Nat) : Int) := by rw [wrap_i64_id (by omega) (by omega)]; omega
        have wa : IntKind.i64.wrap ((0 : Int) + ((12 + (bs'.take (numL b0 b1 b2 b3)).length : Nat) : Int)) = (((catR [(⟨numL c0 c1 c2 c3, bs'.take (numL b0 b1 b2 b3)⟩ : Rec)]).length : Nat) : Int) := by
          have : ([] ++ [(⟨numL c0 c1 c2 c3, bs'.take (numL b0 b1 b2 b3)⟩ : Rec)]) = [(⟨numL c0 c1 c2 c3, bs'.take (numL b0 b1 b2 b3)⟩ : Rec)] := rfl
          rw [this] at hln
          rw [wrap_i64_id (by omega) (by omega)]; omega
        simp -implicitDefEqProofs only [go_sem, reduceIte, Nat.reduceAdd, Nat.reduceSub, Nat.reduceMul, Nat.reduceLT, Nat.reduceLeDiff, Nat.reduceEqDiff, Nat.reduceBEq, Int.reduceLE, Int.reduceLT, Int.reduceToNat, Int.reduceMul, Int.reduceAdd, Int.reduceSub, Int.reduceNeg, Int.reduceEq, reduceCtorEq, Nat.reduceMod, f4, wl, wa, gt_iff_lt, Int.lt_irrefl, Int.natCast_zero]
        refine ⟨⟨by simp [okEs, T.one], by unfold room; omega⟩, h0 _ _ hnx ?_⟩
        simp -implicitDefEqProofs only [go_sem, reduceIte, Nat.reduceAdd, Nat.reduceSub, Nat.reduceMul, Nat.reduceLT, Nat.reduceLeDiff, Nat.reduceEqDiff, Nat.reduceBEq, Int.reduceLE, Int.reduceLT, Int.reduceToNat, Int.reduceMul, Int.reduceAdd, Int.reduceSub, Int.reduceNeg, Int.reduceEq, reduceCtorEq, Nat.reduceMod, scanG, scanV, Rec.cells, recsT]
        exact ⟨_, rfl⟩
      · have f4 : (((getV d0 d1 d2 d3 4).toNat : Int) != ((updV 0#32 (b0 :: b1 :: b2 :: b3 :: c0 :: c1 :: c2 :: c3 :: bs'.take (numL b0 b1 b2 b3))).toNat : Int)) = true := by
          rw [bne_iff_ne]
          intro e
          exact g4 (BitVec.eq_of_toNat_eq (by omega))
        simp -implicitDefEqProofs only [go_sem, reduceIte, Nat.reduceAdd, Nat.reduceSub, Nat.reduceMul, Nat.reduceLT, Nat.reduceLeDiff, Nat.reduceEqDiff, Nat.reduceBEq, Int.reduceLE, Int.reduceLT, Int.reduceToNat, Int.reduceMul, Int.reduceAdd, Int.reduceSub, Int.reduceNeg, Int.reduceEq, reduceCtorEq, Nat.reduceMod, f4]
        refine h1 _ (hnone fun h => g4 h.2.2.2) ?_
        simp -implicitDefEqProofs only [go_sem, reduceIte, Nat.reduceAdd, Nat.reduceSub, Nat.reduceMul, Nat.reduceLT, Nat.reduceLeDiff, Nat.reduceEqDiff, Nat.reduceBEq, Int.reduceLE, Int.reduceLT, Int.reduceToNat, Int.reduceMul, Int.reduceAdd, Int.reduceSub, Int.reduceNeg, Int.reduceEq, reduceCtorEq, Nat.reduceMod, scanE]
        exact ⟨_, rfl⟩
    · simp -implicitDefEqProofs only [go_sem, reduceIte, Nat.reduceAdd, Nat.reduceSub, Nat.reduceMul, Nat.reduceLT, Nat.reduceLeDiff, Nat.reduceEqDiff, Nat.reduceBEq, Int.reduceLE, Int.reduceLT, Int.reduceToNat, Int.reduceMul, Int.reduceAdd, Int.reduceSub, Int.reduceNeg, Int.reduceEq, reduceCtorEq, Nat.reduceMod]
      rfl
end Go.Proofs.Ytadnjellfiafaaa.Pm
