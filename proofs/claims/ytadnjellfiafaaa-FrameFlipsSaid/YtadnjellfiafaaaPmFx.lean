/- frame: plain laws of a changed byte. No program is in sight. -/
import Derived.Test.YtadnjellfiafaaaPmFq
set_option linter.all false
namespace Go.Proofs.Ytadnjellfiafaaa.Pm
open Go Go.RowKit

theorem run_inj (q : List (BitVec 8)) {r1 r2 : BitVec 32} (h : runL r1 q = runL r2 q) : r1 = r2 := by
  have h1 := run_xor q r1 (r1 ^^^ r2)
  have e : r1 ^^^ (r1 ^^^ r2) = r2 := by rw [← BitVec.xor_assoc, BitVec.xor_self, BitVec.zero_xor]
  rw [e, h] at h1
  have h2 : shiftL q.length (r1 ^^^ r2) = 0#32 := by
    have := congrArg (fun x => runL r2 q ^^^ x) h1
    simp only [← BitVec.xor_assoc, BitVec.xor_self, BitVec.zero_xor] at this
    exact this.symm
  have h3 : r1 ^^^ r2 = 0#32 := itn_inj (8 * q.length) (by rw [itn_zero]; exact h2)
  have := congrArg (fun x => x ^^^ r2) h3
  simp only [BitVec.xor_assoc, BitVec.xor_self, BitVec.xor_zero, BitVec.zero_xor] at this
  exact this
theorem upd_one {p q : List (BitVec 8)} {a b : BitVec 8} (h : updV 0#32 (p ++ a :: q) = updV 0#32 (p ++ b :: q)) : a = b := by
  unfold updV at h
  rw [run_append, run_append, run_cons, run_cons] at h
  generalize runL (~~~0#32) p = R at h
  have h0 := congrArg (fun x => ~~~x) h
  simp only [BitVec.not_not] at h0
  have h2 := itn_inj 8 (run_inj q h0)
  have h3 := congrArg (fun x => R ^^^ x) h2
  simp only [← BitVec.xor_assoc, BitVec.xor_self, BitVec.zero_xor] at h3
  have h4 := congrArg BitVec.toNat h3
  rw [BitVec.toNat_setWidth, BitVec.toNat_setWidth] at h4
  have ha := a.isLt
  have hb := b.isLt
  exact BitVec.eq_of_toNat_eq (by omega)
theorem oneL_flip {r : Rec} (h : r.ok = true) {w : Nat} (h4 : 4 ≤ w) (hw : w < (bytesL r).length) {y : BitVec 8} (hy : y ≠ (bytesL r)[w]) (q : List (BitVec 8)) : oneL ((bytesL r).set w y ++ q) = none := by
  obtain ⟨h0, h1, h2⟩ := r.ok_iff.1 h
  obtain ⟨n, hn⟩ : ∃ n : Nat, r.num = n := ⟨r.num.toNat, by omega⟩
  obtain ⟨b0, b1, b2, b3, hb⟩ : ∃ b0 b1 b2 b3, fourL (BitVec.ofNat 32 r.data.length) = [b0, b1, b2, b3] := ⟨_, _, _, _, rfl⟩
  obtain ⟨c0, c1, c2, c3, hc⟩ : ∃ b0 b1 b2 b3, fourL (BitVec.ofInt 32 r.num) = [b0, b1, b2, b3] := ⟨_, _, _, _, rfl⟩
  obtain ⟨d0, d1, d2, d3, hd⟩ : ∃ b0 b1 b2 b3, fourL (updV 0#32 (headL r ++ r.data)) = [b0, b1, b2, b3] := ⟨_, _, _, _, rfl⟩
  have n1 := num_four hb
  rw [BitVec.toNat_ofNat, Nat.mod_eq_of_lt (by omega)] at n1
  have n3 : getV d0 d1 d2 d3 4 = updV 0#32 (headL r ++ r.data) := four_inj (by rw [four_getV, hd])
  have hh : headL r = [b0, b1, b2, b3, c0, c1, c2, c3] := by unfold headL; rw [hb, hc]; rfl
  have hB : bytesL r = b0 :: b1 :: b2 :: b3 :: c0 :: c1 :: c2 :: c3 :: d0 :: d1 :: d2 :: d3 :: r.data := by
    unfold bytesL
    rw [hd, hh]
    rfl
  rw [hh] at n3
  have hget : (bytesL r)[w]? = some (bytesL r)[w] := List.getElem?_eq_getElem hw
  generalize (bytesL r)[w] = x at hy hget
  rw [hB] at hget hw ⊢
  have sum : ∀ p z s : List (BitVec 8), ∀ u v : BitVec 8, [b0, b1, b2, b3, c0, c1, c2, c3] ++ r.data = p ++ u :: s → updV 0#32 (p ++ v :: s) = getV d0 d1 d2 d3 4 → v = u := fun p z s u v e h => by
    rw [n3, e] at h
    exact upd_one h
  obtain ⟨w, rfl⟩ : ∃ k, w = k + 4 := ⟨w - 4, by omega⟩
  have fin : ∀ (C D : Prop) [Decidable (C ∧ D)] (z : Rec), ¬ D → (if C ∧ D then some z else none) = (none : Option Rec) := fun C D _ z hn => if_neg fun h => hn h.2
  match w, hw, hget with
  | 0, _, hg =>
    simp only [List.getElem?_cons_succ, List.getElem?_cons_zero, Option.some.injEq] at hg
    subst hg
    simp only [List.set_cons_succ, List.set_cons_zero, List.cons_append, oneL]
    rw [← n1, List.take_left]
    refine if_neg fun hh => hy (sum [b0, b1, b2, b3] [] ([c1, c2, c3] ++ r.data) c0 y rfl hh.2.2.2.symm)
  | 1, _, hg =>
    simp only [List.getElem?_cons_succ, List.getElem?_cons_zero, Option.some.injEq] at hg
    subst hg
    simp only [List.set_cons_succ, List.set_cons_zero, List.cons_append, oneL]
    rw [← n1, List.take_left]
    refine if_neg fun hh => hy (sum [b0, b1, b2, b3, c0] [] ([c2, c3] ++ r.data) c1 y rfl hh.2.2.2.symm)
  | 2, _, hg =>
    simp only [List.getElem?_cons_succ, List.getElem?_cons_zero, Option.some.injEq] at hg
    subst hg
    simp only [List.set_cons_succ, List.set_cons_zero, List.cons_append, oneL]
    rw [← n1, List.take_left]
    refine if_neg fun hh => hy (sum [b0, b1, b2, b3, c0, c1] [] ([c3] ++ r.data) c2 y rfl hh.2.2.2.symm)
  | 3, _, hg =>
    simp only [List.getElem?_cons_succ, List.getElem?_cons_zero, Option.some.injEq] at hg
    subst hg
    simp only [List.set_cons_succ, List.set_cons_zero, List.cons_append, oneL]
    rw [← n1, List.take_left]
    refine if_neg fun hh => hy (sum [b0, b1, b2, b3, c0, c1, c2] [] r.data c3 y rfl hh.2.2.2.symm)
  | 4, _, hg =>
    simp only [List.getElem?_cons_succ, List.getElem?_cons_zero, Option.some.injEq] at hg
    subst hg
    simp only [List.set_cons_succ, List.set_cons_zero, List.cons_append, oneL]
    rw [← n1, List.take_left]
    refine if_neg fun hh => hy ?_
    have := congrArg fourL (hh.2.2.2.trans n3.symm)
    rw [four_getV, four_getV] at this
    simpa using this
  | 5, _, hg =>
    simp only [List.getElem?_cons_succ, List.getElem?_cons_zero, Option.some.injEq] at hg
    subst hg
    simp only [List.set_cons_succ, List.set_cons_zero, List.cons_append, oneL]
    rw [← n1, List.take_left]
    refine if_neg fun hh => hy ?_
    have := congrArg fourL (hh.2.2.2.trans n3.symm)
    rw [four_getV, four_getV] at this
    simpa using this
  | 6, _, hg =>
    simp only [List.getElem?_cons_succ, List.getElem?_cons_zero, Option.some.injEq] at hg
    subst hg
    simp only [List.set_cons_succ, List.set_cons_zero, List.cons_append, oneL]
    rw [← n1, List.take_left]
    refine if_neg fun hh => hy ?_
    have := congrArg fourL (hh.2.2.2.trans n3.symm)
    rw [four_getV, four_getV] at this
    simpa using this
  | 7, _, hg =>
    simp only [List.getElem?_cons_succ, List.getElem?_cons_zero, Option.some.injEq] at hg
    subst hg
    simp only [List.set_cons_succ, List.set_cons_zero, List.cons_append, oneL]
    rw [← n1, List.take_left]
    refine if_neg fun hh => hy ?_
    have := congrArg fourL (hh.2.2.2.trans n3.symm)
    rw [four_getV, four_getV] at this
    simpa using this
  | j + 8, hlt, hg =>
    simp only [List.getElem?_cons_succ] at hg
    simp only [List.length_cons] at hlt
    have hj : j < r.data.length := by omega
    simp only [List.set_cons_succ, List.cons_append, oneL]
    have hlen : (r.data.set j y).length = numL b0 b1 b2 b3 := by rw [List.length_set, n1]
    rw [← hlen, List.take_left]
    refine if_neg fun hh => hy ?_
    rw [List.getElem?_eq_getElem hj] at hg
    simp only [Option.some.injEq] at hg
    subst hg
    have e1 : r.data.set j y = r.data.take j ++ y :: r.data.drop (j + 1) := by rw [List.set_eq_take_append_cons_drop, if_pos hj]
    have e2 : r.data = r.data.take j ++ r.data[j] :: r.data.drop (j + 1) := by rw [List.getElem_cons_drop, List.take_append_drop]
    refine sum ([b0, b1, b2, b3, c0, c1, c2, c3] ++ r.data.take j) [] (r.data.drop (j + 1)) r.data[j] y ?_ ?_
    · conv => lhs; rw [e2]
      rw [List.append_assoc]
    · rw [List.append_assoc, ← e1]
      exact hh.2.2.2.symm
/-- A scan of records of which a byte is changed ends before that one. -/
theorem scan_flip {l : List Rec} (h : follows l = true) {k w : Nat} (hk : k < l.length) (h4 : 4 ≤ w) (hw : w < (bytesL l[k]).length) {y : BitVec 8} (hy : y ≠ (bytesL l[k])[w]) : scanL ((catR l).set ((catR (l.take k)).length + w) y) = l.take k := by
  have hb : (catR l).set ((catR (l.take k)).length + w) y = catR (l.take k) ++ ((bytesL l[k]).set w y ++ catR (l.drop (k + 1))) := by
    rw [catR_split hk, List.set_append_right _ _ (by omega), Nat.add_sub_cancel_left, List.set_append_left _ _ hw]
  rw [hb]
  refine scanL_unique (scanOK_take h k _ ⟨_, rfl⟩) (nextL_none ?_)
  rw [List.drop_left]
  exact oneL_flip (follows_ok h _ (List.getElem_mem hk)) h4 hw hy _
theorem catR_at {l : List Rec} {k w : Nat} (hk : k < l.length) (hw : w < (bytesL l[k]).length) : (catR l)[(catR (l.take k)).length + w]? = some (bytesL l[k])[w] := by
  rw [catR_split hk, List.getElem?_append_right (by omega), Nat.add_sub_cancel_left, List.getElem?_append_left hw, List.getElem?_eq_getElem hw]
end Go.Proofs.Ytadnjellfiafaaa.Pm
