/- frame: plain laws of scans of torn, joined and changed bytes. No program is in sight. -/
import Derived.Test.YtadnjellfiafaaaPmFp
set_option linter.all false
namespace Go.Proofs.Ytadnjellfiafaaa.Pm
open Go Go.RowKit

theorem follows_ok {l : List Rec} (h : follows l = true) : ∀ r ∈ l, r.ok = true := fun r hr => by
  obtain ⟨i, hi, rfl⟩ := List.mem_iff_getElem.1 hr
  have := (follows_iff l).1 h i hi
  simp only [followsAt, List.getElem?_eq_getElem hi, Bool.and_eq_true] at this
  exact this.1
theorem follows_row {l : List Rec} (h : follows l = true) (k : Nat) (hk : k + 1 < l.length) : l[k + 1].num = l[k].num + 1 := by
  have := (follows_iff l).1 h (k + 1) hk
  simp only [followsAt, List.getElem?_eq_getElem hk, List.getElem?_eq_getElem (show k < l.length by omega), Bool.and_eq_true, decide_eq_true_eq] at this
  exact this.2
theorem follows_of {l : List Rec} (h1 : ∀ r ∈ l, r.ok = true) (h2 : ∀ k (h : k + 1 < l.length), l[k + 1].num = l[k].num + 1) : follows l = true := by
  rw [follows_iff]
  intro k hk
  cases k with
  | zero => simp [followsAt, hk, h1 _ (List.getElem_mem hk)]
  | succ k =>
    simp only [followsAt, List.getElem?_eq_getElem hk, List.getElem?_eq_getElem (show k < l.length by omega), Bool.and_eq_true, decide_eq_true_eq]
    exact ⟨h1 _ (List.getElem_mem hk), h2 k hk⟩
theorem follows_allOk {l : List Rec} (h : follows l = true) : allOk l = true := by
  simp only [allOk, Bool.not_eq_true', List.any_eq_false]
  intro r hr
  simp [follows_ok h r hr]
/-- The first records of a row keep to bytes that begin with theirs. -/
theorem scanOK_take {l : List Rec} (h : follows l = true) (k : Nat) (bs : List (BitVec 8)) (hb : ∃ q, bs = catR (l.take k) ++ q) : ScanOK bs (l.take k) := by
  refine ⟨hb, fun r hr => follows_ok h r (List.mem_of_mem_take hr), fun j hj => ?_⟩
  rw [List.length_take] at hj
  rw [List.getElem_take, List.getElem_take]
  exact follows_row h j (by omega)
theorem nextL_none {bs : List (BitVec 8)} {m : List Rec} (h : oneL (bs.drop (catR m).length) = none) : nextL bs m = none := by
  unfold nextL
  rw [h]
/-- Less than the bytes of a record is no record. -/
theorem oneL_torn {r : Rec} (h : r.ok = true) {p : List (BitVec 8)} (hp : ∃ z, bytesL r = p ++ z) (hl : p.length < (bytesL r).length) : oneL p = none := by
  cases ho : oneL p with
  | none => rfl
  | some r' =>
    exfalso
    obtain ⟨z, hz⟩ := hp
    obtain ⟨h', q, hq⟩ := oneL_some ho
    have h1 := oneL_bytes h []
    have h2 := oneL_bytes h' (q ++ z)
    rw [List.append_nil, hz, hq, List.append_assoc, h2] at h1
    simp only [Option.some.injEq] at h1
    subst h1
    rw [hq, List.length_append] at hl
    omega
theorem oneL_nil : oneL [] = none := rfl
/-- A scan of the first bytes of records finds those that are there as a whole. -/
theorem scan_torn {l : List Rec} (h : follows l = true) {n k : Nat} (hn : n ≤ (catR l).length) (hk : k ≤ l.length) (h1 : (catR (l.take k)).length ≤ n) (h2 : ∀ (hk' : k < l.length), n < (catR (l.take (k + 1))).length) : scanL ((catR l).take n) = l.take k := by
  have hsplit : catR l = catR (l.take k) ++ catR (l.drop k) := by rw [← catR_append, List.take_append_drop]
  have htake : (catR l).take n = catR (l.take k) ++ (catR (l.drop k)).take (n - (catR (l.take k)).length) := by
    rw [hsplit, List.take_append, List.take_of_length_le h1]
  refine scanL_unique (scanOK_take h k _ ⟨_, htake⟩) (nextL_none ?_)
  rw [htake, List.drop_left]
  by_cases hk' : k < l.length
  · have h3 := h2 hk'
    have h4 : catR (l.drop k) = bytesL l[k] ++ catR (l.drop (k + 1)) := by
      rw [← List.getElem_cons_drop hk']
      unfold catR
      rw [List.map_cons, List.flatten_cons]
    rw [catR_step hk', List.length_append] at h3
    rw [h4, List.take_append_of_le_length (by omega)]
    refine oneL_torn (follows_ok h _ (List.getElem_mem hk')) ⟨(bytesL l[k]).drop (n - (catR (l.take k)).length), (List.take_append_drop _ _).symm⟩ ?_
    rw [List.length_take]
    omega
  · have : k = l.length := by omega
    subst this
    rw [List.drop_length]
    simp [catR, oneL_nil]
theorem scanF_prefix {bs : List (BitVec 8)} : ∀ (f : Nat) (m : List Rec), ∃ m', scanF bs f m = m ++ m'
  | 0, m => ⟨[], by simp [scanF]⟩
  | f + 1, m => by
    unfold scanF
    split
    · rename_i r _
      obtain ⟨m', h⟩ := scanF_prefix (bs := bs) f (m ++ [r])
      exact ⟨r :: m', by rw [h]; simp⟩
    · exact ⟨[], by simp⟩
theorem nextL_row {l : List Rec} (h : follows l = true) {bs q : List (BitVec 8)} (hb : bs = catR l ++ q) {k : Nat} (hk : k < l.length) : nextL bs (l.take k) = some l[k] := by
  have h1 : bs.drop (catR (l.take k)).length = bytesL l[k] ++ (catR (l.drop (k + 1)) ++ q) := by
    rw [hb, catR_split hk, List.append_assoc, List.drop_left, List.append_assoc]
  unfold nextL
  rw [h1, oneL_bytes (follows_ok h _ (List.getElem_mem hk))]
  simp only
  split
  · rename_i p hp
    rw [List.getLast?_eq_getElem?, List.length_take, Nat.min_eq_left (by omega)] at hp
    have hk0 : 0 < k := by
      rcases Nat.eq_zero_or_pos k with h0 | h0
      · subst h0; simp at hp
      · exact h0
    have hp' : l[k - 1]? = some p := by
      rw [List.getElem?_take_of_lt (by omega)] at hp
      exact hp
    have h3 := follows_row h (k - 1) (by omega)
    have e1 : k - 1 + 1 = k := by omega
    simp only [e1] at h3
    rw [List.getElem?_eq_getElem (by omega)] at hp'
    simp only [Option.some.injEq] at hp'
    rw [if_pos (by rw [h3, hp'])]
  · rfl
/-- A scan of all bytes of records finds these, whatever follows. -/
theorem scan_more {l : List Rec} (h : follows l = true) (q : List (BitVec 8)) : ∃ m', scanL (catR l ++ q) = l ++ m' := by
  have key : ∀ k, k ≤ l.length → ∃ f, scanL (catR l ++ q) = scanF (catR l ++ q) f (l.take k) := by
    intro k
    induction k with
    | zero => exact fun _ => ⟨_, rfl⟩
    | succ k ih =>
      intro hk
      obtain ⟨f, hf⟩ := ih (by omega)
      have hn := nextL_row h (bs := catR l ++ q) rfl (show k < l.length by omega)
      cases f with
      | zero =>
        exfalso
        have := scanL_end (catR l ++ q)
        rw [hf, scanF, hn] at this
        cases this
      | succ f =>
        refine ⟨f, ?_⟩
        rw [hf, scanF, hn]
        simp only
        rw [List.take_append_getElem]
  obtain ⟨f, hf⟩ := key l.length (Nat.le_refl _)
  rw [List.take_length] at hf
  rw [hf]
  exact scanF_prefix f l
theorem scanL_follows (bs : List (BitVec 8)) : follows (scanL bs) = true := follows_of (scanL_ok bs).ok (scanL_ok bs).row
/-- A scan of the bytes that were used finds the same. -/
theorem scan_back (bs : List (BitVec 8)) : scanL (catR (scanL bs)) = scanL bs := by
  refine scanL_unique ⟨⟨[], by simp⟩, (scanL_ok bs).ok, (scanL_ok bs).row⟩ (nextL_none ?_)
  rw [List.drop_length, oneL_nil]
theorem scan_used (bs : List (BitVec 8)) : bs.take (catR (scanL bs)).length = catR (scanL bs) := by
  obtain ⟨q, hq⟩ := (scanL_ok bs).bytes
  have key : ∀ m : List (BitVec 8), bs = m ++ q → bs.take m.length = m := fun m h => by rw [h, List.take_left]
  exact key _ hq
end Go.Proofs.Ytadnjellfiafaaa.Pm
