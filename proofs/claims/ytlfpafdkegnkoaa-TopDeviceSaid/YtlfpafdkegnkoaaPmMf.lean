/- Texts of this proof in one file: PmFk, PmFl, PmFm, PmFqd, PmFqe. No law of Go's is stated here. -/
import Derived.Test.YtlfpafdkegnkoaaPmMe
set_option linter.all false
set_option maxRecDepth 100000
namespace Go.Proofs.Ytlfpafdkegnkoaa.Pm
open Go Go.RowKit
def scanB (C24 : C) : C := (.seq (.seq (.seq (.reg ([⟨some 11, .move (.tmp 0), none⟩, ⟨some 12, .call { callee := .builtin .len, args := #[(.tmp 11)], argTypes := #[24] }, none⟩, ⟨some 13, .binOp .gtr 3 (.tmp 12) (.const (.int .i64 20000)) 3, none⟩])) (.keep [0, 13])) kc1) (.seq (.seq (.reg ([⟨some 5, .assign (.const (.slice none 0 0)), none⟩])) (.keep [0, 5])) (.seq (.seq (.reg ([⟨some 6, .alloc 47, none⟩])) (.keep [0, 5, 6])) (.seq (.seq (.reg ([⟨some 7, .assign (.const (.int .i64 0)), none⟩])) (.keep [0, 5, 6, 7])) (.seq .label C24)))))
theorem scanB_eq : kc23 = scanB kc18 := rfl
theorem s_frame_Scan_ok (bs : List (BitVec 8)) (hl : bs.length ≤ 20000) : Spec Try.prog 46 [.sl (bT bs)] [] (.tup [.t (.sl (recsT (scanL bs))) true, .t (.i .i64 (catR (scanL bs)).length) true, .t (.i .i64 0) true]) := by
  refine spec_k (hold mixed) b_frame_Scan [(.sl (recsT (scanL bs)), true), (.i .i64 (catR (scanL bs)).length, true), (.i .i64 0, true)] ?_
  simp -implicitDefEqProofs only [go_sem, seval]
  refine scope_2 (fun n s => ∃ M r b1, cut [0, 5, 6, 7] 3 (adopt [(5, 2)] s) = scanG bs (M ++ [r]) M.length (.var (scanV r)) b1 ∧ ScanOK bs (M ++ [r]) ∧ scanF bs n (M ++ [r]) = scanL bs ∧ bs.length < n + (catR (M ++ [r])).length)
    (fun n s => (∃ M ver b0 b1, cut [0, 5, 6, 7] 3 (adopt [(5, 2)] s) = scanG bs M ver b0 b1 ∧ scanL bs = M) ∨ (∃ b0, cut [0, 5, 6, 7] 3 (adopt [(5, 2)] s) = scanE bs b0 ∧ scanL bs = [])) (by decide) ?_ ?_ ?_
  · have h1 : ((bs.length : Int) > 20000) = False := eq_false (by omega)
    rw [scanB_eq]
    generalize hC : kc18 = C24
    simp -implicitDefEqProofs only [go_sem, seval, h1, scanB]
    subst hC
    have hF0 : scanL bs = scanF bs (bs.length + 1) [] := rfl
    refine scan_first bs hl _ (fun r s' hr hs => ?_) (fun s' hr hs => ?_)
    · rw [gotoF_g]
      obtain ⟨b1, hs⟩ := hs
      have hln := (nextL_len hr (by simp [catR])).2
      refine ⟨bs.length, .inl ⟨rfl, [], r, b1, hs, scanOK_step (scanOK_nil bs) hr, ?_, ?_⟩⟩
      · rw [hF0, scanF, hr]
      · rw [hln]
        simp [catR]
        omega
    · rw [gotoF_g]
      obtain ⟨b0, hs⟩ := hs
      exact ⟨0, .inr ⟨rfl, .inr ⟨b0, hs, by rw [hF0, scanF, hr]⟩⟩⟩
  · rintro n s ⟨M, r, b1, hs, hok, hF, hn⟩
    refine ⟨3, ?_⟩
    have hle : (catR (M ++ [r])).length ≤ bs.length := by
      obtain ⟨q, hq⟩ := hok.bytes
      have := congrArg List.length hq
      rw [List.length_append] at this
      omega
    obtain ⟨n, rfl⟩ : ∃ k, n = k + 1 := ⟨n - 1, by omega⟩
    rw [hs]
    unfold kc41
    rw [Wk_seq, Wk_skip, Rk_seq_n, scan_same]
    refine scan_round bs hl (M ++ [r]) hle (by simp) hok.ok M.length _ _ b1 _ (fun r' s' hr hs => ?_) (fun s' hr hs => ?_)
    · rw [gotoN_g]
      obtain ⟨b1, hs⟩ := hs
      have hln := (nextL_len hr hle).2
      refine ⟨n, Nat.lt_succ_self _, .inl ⟨rfl, M ++ [r], r', b1, ?_, scanOK_step hok hr, ?_, ?_⟩⟩
      · rw [hs]; simp
      · rw [← hF, scanF, hr]
      · rw [hln]; omega
    · rw [gotoN_g]
      obtain ⟨b0, b1, hs⟩ := hs
      exact ⟨0, Nat.succ_pos _, .inr ⟨rfl, .inl ⟨_, _, b0, b1, hs, by rw [← hF, scanF, hr]⟩⟩⟩
  · rintro n s (⟨M, ver, b0, b1, hs, hM⟩ | ⟨b0, hs, hM⟩)
    · refine ⟨3, ?_⟩
      rw [hs]
      have e1 : List.take M.length (recsT M) = recsT M := List.take_of_length_le (by rw [recsT_length]; exact Nat.le_refl _)
      simp -implicitDefEqProofs only [go_sem, seval, scanG, recsT_length, hM, e1]
    · refine ⟨3, ?_⟩
      rw [hs]
      simp -implicitDefEqProofs only [go_sem, seval, scanE, hM, catR_nil, Int.natCast_zero]
      rfl
def follows : List Rec → Bool
  | [] => true
  | [r] => r.ok
  | r :: s :: l => r.ok && (decide (s.num = r.num + 1) && follows (s :: l))
def followsAt (l : List Rec) (k : Nat) : Bool := match l[k]? with
  | some r => r.ok && (match k with
    | 0 => true
    | j + 1 => match l[j]? with
      | some p => decide (r.num = p.num + 1)
      | none => true)
  | none => true
theorem follows_iff (l : List Rec) : follows l = true ↔ ∀ k, k < l.length → followsAt l k = true := by
  match l with
  | [] => simp [follows]
  | [r] =>
    simp only [follows]
    refine ⟨fun h k hk => ?_, fun h => ?_⟩
    · simp at hk; subst hk; simp [followsAt, h]
    · have := h 0 (by simp); simpa [followsAt] using this
  | r :: s :: l =>
    have ih := follows_iff (s :: l)
    simp only [follows, Bool.and_eq_true, decide_eq_true_eq, ih]
    refine ⟨fun ⟨h1, h2, h3⟩ k hk => ?_, fun h => ⟨?_, ?_, fun k hk => ?_⟩⟩
    · match k with
      | 0 => simp [followsAt, h1]
      | 1 =>
        have := h3 0 (by simp)
        simp only [followsAt] at this ⊢
        simp at this ⊢
        exact ⟨this, h2⟩
      | k + 2 =>
        have := h3 (k + 1) (by simpa using hk)
        simpa [followsAt] using this
    · have := h 0 (by simp); simpa [followsAt] using this
    · have := h 1 (by simp); simp [followsAt] at this; exact this.2
    · have := h (k + 1) (by simpa using hk)
      match k with
      | 0 => simp [followsAt] at this ⊢; exact this.1
      | k + 1 => simpa [followsAt] using this
theorem scanL_len (bs : List (BitVec 8)) : (catR (scanL bs)).length ≤ bs.length := by
  obtain ⟨q, hq⟩ := (scanL_ok bs).bytes
  have := congrArg List.length hq
  rw [List.length_append] at this
  omega
theorem follows_ok {l : List Rec} (h : follows l = true) : ∀ r ∈ l, r.ok = true := fun r hr => by
  obtain ⟨i, hi, rfl⟩ := List.mem_iff_getElem.1 hr
  have := (follows_iff l).1 h i hi
  simp only [followsAt, List.getElem?_eq_getElem hi, Bool.and_eq_true] at this
  exact this.1
theorem follows_row {l : List Rec} (h : follows l = true) (k : Nat) (hk : k + 1 < l.length) : l[k + 1].num = l[k].num + 1 := by
  have := (follows_iff l).1 h (k + 1) hk
  simp only [followsAt, List.getElem?_eq_getElem hk, List.getElem?_eq_getElem (show k < l.length by omega), Bool.and_eq_true, decide_eq_true_eq] at this
  exact this.2
theorem follows_of {l : List Rec} (h1 : ∀ r ∈ l, r.ok = true) (h2 : ∀ k (h : k + 1 < l.length), l[k + 1].num = l[k].num + 1) : follows l = true := by
  rw [follows_iff]
  intro k hk
  cases k with
  | zero => simp [followsAt, hk, h1 _ (List.getElem_mem hk)]
  | succ k =>
    simp only [followsAt, List.getElem?_eq_getElem hk, List.getElem?_eq_getElem (show k < l.length by omega), Bool.and_eq_true, decide_eq_true_eq]
    exact ⟨h1 _ (List.getElem_mem hk), h2 k hk⟩
theorem scanOK_take {l : List Rec} (h : follows l = true) (k : Nat) (bs : List (BitVec 8)) (hb : ∃ q, bs = catR (l.take k) ++ q) : ScanOK bs (l.take k) := by
  refine ⟨hb, fun r hr => follows_ok h r (List.mem_of_mem_take hr), fun j hj => ?_⟩
  rw [List.length_take] at hj
  rw [List.getElem_take, List.getElem_take]
  exact follows_row h j (by omega)
theorem nextL_none {bs : List (BitVec 8)} {m : List Rec} (h : oneL (bs.drop (catR m).length) = none) : nextL bs m = none := by
  unfold nextL
  rw [h]
theorem oneL_torn {r : Rec} (h : r.ok = true) {p : List (BitVec 8)} (hp : ∃ z, bytesL r = p ++ z) (hl : p.length < (bytesL r).length) : oneL p = none := by
  cases ho : oneL p with
  | none => rfl
  | some r' =>
    exfalso
    obtain ⟨z, hz⟩ := hp
    obtain ⟨h', q, hq⟩ := oneL_some ho
    have h1 := oneL_bytes h []
    have h2 := oneL_bytes h' (q ++ z)
    rw [List.append_nil, hz, hq, List.append_assoc, h2] at h1
    simp only [Option.some.injEq] at h1
    subst h1
    rw [hq, List.length_append] at hl
    omega
theorem oneL_nil : oneL [] = none := rfl
theorem scan_torn {l : List Rec} (h : follows l = true) {n k : Nat} (hn : n ≤ (catR l).length) (hk : k ≤ l.length) (h1 : (catR (l.take k)).length ≤ n) (h2 : ∀ (hk' : k < l.length), n < (catR (l.take (k + 1))).length) : scanL ((catR l).take n) = l.take k := by
  have hsplit : catR l = catR (l.take k) ++ catR (l.drop k) := by rw [← catR_append, List.take_append_drop]
  have htake : (catR l).take n = catR (l.take k) ++ (catR (l.drop k)).take (n - (catR (l.take k)).length) := by
    rw [hsplit, List.take_append, List.take_of_length_le h1]
  refine scanL_unique (scanOK_take h k _ ⟨_, htake⟩) (nextL_none ?_)
  rw [htake, List.drop_left]
  by_cases hk' : k < l.length
  · have h3 := h2 hk'
    have h4 : catR (l.drop k) = bytesL l[k] ++ catR (l.drop (k + 1)) := by
      rw [← List.getElem_cons_drop hk']
      unfold catR
      rw [List.map_cons, List.flatten_cons]
    rw [catR_step hk', List.length_append] at h3
    rw [h4, List.take_append_of_le_length (by omega)]
    refine oneL_torn (follows_ok h _ (List.getElem_mem hk')) ⟨(bytesL l[k]).drop (n - (catR (l.take k)).length), (List.take_append_drop _ _).symm⟩ ?_
    rw [List.length_take]
    omega
  · have : k = l.length := by omega
    subst this
    rw [List.drop_length]
    simp [catR, oneL_nil]
theorem scanL_follows (bs : List (BitVec 8)) : follows (scanL bs) = true := follows_of (scanL_ok bs).ok (scanL_ok bs).row
theorem scan_used (bs : List (BitVec 8)) : bs.take (catR (scanL bs)).length = catR (scanL bs) := by
  obtain ⟨q, hq⟩ := (scanL_ok bs).bytes
  have key : ∀ m : List (BitVec 8), bs = m ++ q → bs.take m.length = m := fun m h => by rw [h, List.take_left]
  exact key _ hq
def cntR : List Rec → Nat → Nat
  | [], _ => 0
  | r :: l, n => if (bytesL r).length ≤ n then cntR l (n - (bytesL r).length) + 1 else 0
theorem catR_cons (r : Rec) (l : List Rec) : (catR (r :: l)).length = (bytesL r).length + (catR l).length := by simp [catR]
theorem cntR_le : ∀ (l : List Rec) (n : Nat), cntR l n ≤ l.length
  | [], _ => Nat.le_refl _
  | r :: l, n => by
    unfold cntR
    split
    · rw [List.length_cons]; exact Nat.succ_le_succ (cntR_le l _)
    · exact Nat.zero_le _
theorem cntR_in : ∀ (l : List Rec) (n : Nat), (catR (l.take (cntR l n))).length ≤ n
  | [], _ => by rw [List.take_nil]; exact Nat.zero_le _
  | r :: l, n => by
    unfold cntR
    split
    · rw [List.take_succ_cons, catR_cons]
      have := cntR_in l (n - (bytesL r).length)
      omega
    · exact Nat.zero_le _
theorem cntR_out : ∀ (l : List Rec) (n : Nat), cntR l n < l.length → n < (catR (l.take (cntR l n + 1))).length
  | [], _, h => absurd h (by simp)
  | r :: l, n, h => by
    unfold cntR at h ⊢
    split
    · rename_i hc
      rw [if_pos hc, List.length_cons] at h
      have := cntR_out l (n - (bytesL r).length) (by omega)
      rw [List.take_succ_cons, catR_cons]
      omega
    · rw [List.take_succ_cons, catR_cons]
      omega
theorem scan_pre {l : List Rec} (h : follows l = true) {n : Nat} (hn : n ≤ (catR l).length) : scanL ((catR l).take n) = l.take (cntR l n) :=
  scan_torn h hn (cntR_le l n) (cntR_in l n) (cntR_out l n)
theorem catR_mono (l : List Rec) {j k : Nat} (h : j ≤ k) : (catR (l.take j)).length ≤ (catR (l.take k)).length := by
  have := catR_le (l.take k) j
  rw [List.take_take, Nat.min_eq_left h] at this
  exact this
theorem scan_whole {l : List Rec} (h : follows l = true) : scanL (catR l) = l := by
  have := scan_torn h (n := (catR l).length) (k := l.length) (Nat.le_refl _) (Nat.le_refl _) (by rw [List.take_length]; exact Nat.le_refl _) (fun h => absurd h (Nat.lt_irrefl _))
  rw [List.take_length, List.take_length] at this
  exact this
theorem follows_take {l : List Rec} (h : follows l = true) (k : Nat) : follows (l.take k) = true :=
  follows_of (fun r hr => follows_ok h r (List.mem_of_mem_take hr)) (fun j hj => by
    rw [List.length_take] at hj
    rw [List.getElem_take, List.getElem_take]
    exact follows_row h j (by omega))
theorem follows_num {l : List Rec} (h : follows l = true) : ∀ (k : Nat) (hk : k < l.length), l[k].num = (l[0]'(by omega)).num + k
  | 0, hk => by simp
  | k + 1, hk => by
    rw [follows_row h k hk, follows_num h k (by omega)]
    omega
end Go.Proofs.Ytlfpafdkegnkoaa.Pm
