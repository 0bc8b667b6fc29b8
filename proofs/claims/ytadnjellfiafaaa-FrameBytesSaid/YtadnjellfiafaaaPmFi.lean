/- frame: plain laws of records, their bytes and scans. No program is in sight. -/
import Derived.Test.YtadnjellfiafaaaPmFh
set_option linter.all false
namespace Go.Proofs.Ytadnjellfiafaaa.Pm
open Go Go.RowKit

theorem getV_num (b0 b1 b2 b3 : BitVec 8) : (getV b0 b1 b2 b3 4).toNat = numL b0 b1 b2 b3 := by
  have h0 := b0.isLt
  have h1 := b1.isLt
  have h2 := b2.isLt
  have h3 := b3.isLt
  have e0 : (0#32 ||| b0.setWidth 32 <<< 0).toNat = b0.toNat := by simp; omega
  have e1 : (b1.setWidth 32 <<< 8).toNat = b1.toNat <<< 8 := by
    rw [BitVec.toNat_shiftLeft, BitVec.toNat_setWidth, Nat.mod_eq_of_lt (by omega : b1.toNat < 2 ^ 32), Nat.mod_eq_of_lt]
    rw [Nat.shiftLeft_eq]; omega
  have e2 : (b2.setWidth 32 <<< 16).toNat = b2.toNat <<< 16 := by
    rw [BitVec.toNat_shiftLeft, BitVec.toNat_setWidth, Nat.mod_eq_of_lt (by omega : b2.toNat < 2 ^ 32), Nat.mod_eq_of_lt]
    rw [Nat.shiftLeft_eq]; omega
  have e3 : (b3.setWidth 32 <<< 24).toNat = b3.toNat <<< 24 := by
    rw [BitVec.toNat_shiftLeft, BitVec.toNat_setWidth, Nat.mod_eq_of_lt (by omega : b3.toNat < 2 ^ 32), Nat.mod_eq_of_lt]
    rw [Nat.shiftLeft_eq]; omega
  show (0#32 ||| b0.setWidth 32 <<< 0 ||| b1.setWidth 32 <<< 8 ||| b2.setWidth 32 <<< 16 ||| b3.setWidth 32 <<< 24).toNat = _
  rw [BitVec.toNat_or, BitVec.toNat_or, BitVec.toNat_or, e0, e1, e2, e3]
  rw [Nat.or_comm b0.toNat, ← Nat.shiftLeft_add_eq_or_of_lt (by omega : b0.toNat < 2 ^ 8)]
  rw [Nat.or_comm _ (b2.toNat <<< 16), ← Nat.shiftLeft_add_eq_or_of_lt (by rw [Nat.shiftLeft_eq]; omega)]
  rw [Nat.or_comm _ (b3.toNat <<< 24), ← Nat.shiftLeft_add_eq_or_of_lt (by rw [Nat.shiftLeft_eq, Nat.shiftLeft_eq]; omega)]
  simp only [Nat.shiftLeft_eq, numL]
  omega
theorem four_nat (n : BitVec 32) : fourL n = [BitVec.ofNat 8 n.toNat, BitVec.ofNat 8 (n.toNat / 256), BitVec.ofNat 8 (n.toNat / 65536), BitVec.ofNat 8 (n.toNat / 16777216)] := by
  unfold fourL
  simp only [List.cons.injEq, and_true]
  refine ⟨?_, ?_, ?_, ?_⟩ <;> apply BitVec.eq_of_toNat_eq <;> simp [Nat.shiftRight_eq_div_pow]
theorem byte_eq {a : BitVec 8} {n : Nat} (h : n % 256 = a.toNat) : BitVec.ofNat 8 n = a := by
  apply BitVec.eq_of_toNat_eq
  simpa using h
theorem four_num {n : BitVec 32} {b0 b1 b2 b3 : BitVec 8} (h : n.toNat = numL b0 b1 b2 b3) : fourL n = [b0, b1, b2, b3] := by
  have h0 := b0.isLt
  have h1 := b1.isLt
  have h2 := b2.isLt
  have h3 := b3.isLt
  unfold numL at h
  rw [four_nat]
  simp only [List.cons.injEq, and_true]
  refine ⟨byte_eq ?_, byte_eq ?_, byte_eq ?_, byte_eq ?_⟩ <;> omega
theorem num_four {n : BitVec 32} {b0 b1 b2 b3 : BitVec 8} (h : fourL n = [b0, b1, b2, b3]) : n.toNat = numL b0 b1 b2 b3 := by
  rw [four_nat] at h
  simp only [List.cons.injEq, and_true] at h
  obtain ⟨rfl, rfl, rfl, rfl⟩ := h
  have := n.isLt
  unfold numL
  simp only [BitVec.toNat_ofNat]
  omega
theorem four_getV (b0 b1 b2 b3 : BitVec 8) : fourL (getV b0 b1 b2 b3 4) = [b0, b1, b2, b3] := four_num (getV_num _ _ _ _)
theorem four_inj {m n : BitVec 32} (h : fourL m = fourL n) : m = n := by
  apply BitVec.eq_of_toNat_eq
  have h1 := num_four (n := m) rfl
  have h2 := num_four (n := n) (b0 := m.setWidth 8) (b1 := (m >>> 8).setWidth 8) (b2 := (m >>> 16).setWidth 8) (b3 := (m >>> 24).setWidth 8) (by rw [← h]; rfl)
  omega

/-- The record with which bytes begin. -/
def oneL : List (BitVec 8) → Option Rec
  | b0 :: b1 :: b2 :: b3 :: c0 :: c1 :: c2 :: c3 :: d0 :: d1 :: d2 :: d3 :: bs =>
    if numL b0 b1 b2 b3 ≤ 1000 ∧ numL b0 b1 b2 b3 ≤ bs.length ∧ numL c0 c1 c2 c3 ≤ 1000000000 ∧ getV d0 d1 d2 d3 4 = updV 0#32 ([b0, b1, b2, b3, c0, c1, c2, c3] ++ bs.take (numL b0 b1 b2 b3)) then some ⟨numL c0 c1 c2 c3, bs.take (numL b0 b1 b2 b3)⟩ else none
  | _ => none
theorem ofInt_nat (n : Nat) : BitVec.ofInt 32 (n : Int) = BitVec.ofNat 32 n := by simp
theorem head_of {b0 b1 b2 b3 c0 c1 c2 c3 : BitVec 8} {r : Rec} (h1 : r.data.length = numL b0 b1 b2 b3) (h2 : r.num = (numL c0 c1 c2 c3 : Nat)) (hb : numL b0 b1 b2 b3 < 4294967296) (hc : numL c0 c1 c2 c3 < 4294967296) : headL r = [b0, b1, b2, b3, c0, c1, c2, c3] := by
  unfold headL
  rw [h1, h2, ofInt_nat, four_num (b0 := b0) (b1 := b1) (b2 := b2) (b3 := b3) (by rw [BitVec.toNat_ofNat]; omega), four_num (b0 := c0) (b1 := c1) (b2 := c2) (b3 := c3) (by rw [BitVec.toNat_ofNat]; omega)]
  rfl
theorem oneL_short {bs : List (BitVec 8)} (h : bs.length < 12) : oneL bs = none := by
  unfold oneL
  split
  · simp at h; omega
  · rfl
/-- What is found is valid, and the bytes begin with its bytes. -/
theorem oneL_some {bs : List (BitVec 8)} {r : Rec} (h : oneL bs = some r) : r.ok = true ∧ ∃ q, bs = bytesL r ++ q := by
  unfold oneL at h
  split at h
  · rename_i b0 b1 b2 b3 c0 c1 c2 c3 d0 d1 d2 d3 bs
    split at h
    · rename_i hc
      obtain ⟨g1, g2, g3, g4⟩ := hc
      simp only [Option.some.injEq] at h
      subst h
      have hl : (bs.take (numL b0 b1 b2 b3)).length = numL b0 b1 b2 b3 := by simp; omega
      refine ⟨(Rec.ok_iff _).2 ⟨by simp only; omega, by simp only; omega, by simp only [hl]; omega⟩, bs.drop (numL b0 b1 b2 b3), ?_⟩
      unfold bytesL
      rw [head_of (r := ⟨numL c0 c1 c2 c3, bs.take (numL b0 b1 b2 b3)⟩) hl rfl (by omega) (by omega), ← g4, four_getV]
      simp
    · cases h
  · cases h
/-- Valid records are found by their bytes. -/
theorem oneL_bytes {r : Rec} (h : r.ok = true) (q : List (BitVec 8)) : oneL (bytesL r ++ q) = some r := by
  obtain ⟨h0, h1, h2⟩ := r.ok_iff.1 h
  obtain ⟨n, hn⟩ : ∃ n : Nat, r.num = n := ⟨r.num.toNat, by omega⟩
  obtain ⟨b0, b1, b2, b3, hb⟩ : ∃ b0 b1 b2 b3, fourL (BitVec.ofNat 32 r.data.length) = [b0, b1, b2, b3] := ⟨_, _, _, _, rfl⟩
  obtain ⟨c0, c1, c2, c3, hc⟩ : ∃ b0 b1 b2 b3, fourL (BitVec.ofInt 32 r.num) = [b0, b1, b2, b3] := ⟨_, _, _, _, rfl⟩
  obtain ⟨d0, d1, d2, d3, hd⟩ : ∃ b0 b1 b2 b3, fourL (updV 0#32 (headL r ++ r.data)) = [b0, b1, b2, b3] := ⟨_, _, _, _, rfl⟩
  have n1 := num_four hb
  have n2 := num_four hc
  rw [BitVec.toNat_ofNat, Nat.mod_eq_of_lt (by omega)] at n1
  rw [hn, ofInt_nat, BitVec.toNat_ofNat, Nat.mod_eq_of_lt (by omega)] at n2
  have n3 : getV d0 d1 d2 d3 4 = updV 0#32 (headL r ++ r.data) := four_inj (by rw [four_getV, hd])
  have hh : headL r = [b0, b1, b2, b3, c0, c1, c2, c3] := by unfold headL; rw [hb, hc]; rfl
  unfold bytesL
  rw [hd, hh]
  rw [hh] at n3
  simp only [List.cons_append, List.nil_append, oneL]
  rw [← n1, ← n2, List.take_left]
  rw [if_pos ⟨by omega, by simp, by omega, by simpa using n3⟩]
  congr 1
  cases r
  simp only at hn ⊢
  rw [hn]
theorem oneL_iff {bs : List (BitVec 8)} {r : Rec} : oneL bs = some r ↔ r.ok = true ∧ startsL bs (bytesL r) = true := by
  constructor
  · intro h
    obtain ⟨h1, q, rfl⟩ := oneL_some h
    exact ⟨h1, by simp [startsL]⟩
  · rintro ⟨h1, h2⟩
    simp only [startsL, Bool.and_eq_true, decide_eq_true_eq, beq_iff_eq] at h2
    rw [← List.take_append_drop (bytesL r).length bs, h2.2]
    exact oneL_bytes h1 _
/-- The record behind some records. -/
def nextL (bs : List (BitVec 8)) (m : List Rec) : Option Rec := match oneL (bs.drop (catR m).length) with
  | some r => match m.getLast? with
    | some p => if r.num = p.num + 1 then some r else none
    | none => some r
  | none => none
def scanF (bs : List (BitVec 8)) : Nat → List Rec → List Rec
  | 0, m => m
  | f + 1, m => match nextL bs m with
    | some r => scanF bs f (m ++ [r])
    | none => m
def scanL (bs : List (BitVec 8)) : List Rec := scanF bs (bs.length + 1) []
theorem catR_append (l m : List Rec) : catR (l ++ m) = catR l ++ catR m := by simp [catR]
theorem catR_split {l : List Rec} {k : Nat} (h : k < l.length) : catR l = catR (l.take k) ++ (bytesL l[k] ++ catR (l.drop (k + 1))) := by
  have : l = l.take k ++ (l[k] :: l.drop (k + 1)) := by rw [List.getElem_cons_drop h, List.take_append_drop]
  conv => lhs; rw [this]
  rw [catR_append]
  have h2 : catR (l[k] :: l.drop (k + 1)) = bytesL l[k] ++ catR (l.drop (k + 1)) := by unfold catR; rw [List.map_cons, List.flatten_cons]
  rw [h2]
theorem catR_one (r : Rec) : catR [r] = bytesL r := by simp [catR]
theorem catR_nil : catR [] = [] := rfl
theorem nextL_some {bs : List (BitVec 8)} {m : List Rec} {r : Rec} (h : nextL bs m = some r) : oneL (bs.drop (catR m).length) = some r ∧ ∀ p, m.getLast? = some p → r.num = p.num + 1 := by
  unfold nextL at h
  split at h
  · rename_i r' h1
    split at h
    · rename_i p hp
      split at h
      · simp only [Option.some.injEq] at h
        subst h
        exact ⟨h1, fun p' hp' => by rw [hp] at hp'; cases hp'; assumption⟩
      · cases h
    · rename_i hp
      simp only [Option.some.injEq] at h
      subst h
      exact ⟨h1, fun p' hp' => by rw [hp] at hp'; cases hp'⟩
  · cases h
theorem nextL_len {bs : List (BitVec 8)} {m : List Rec} {r : Rec} (h : nextL bs m = some r) (hm : (catR m).length ≤ bs.length) : (catR (m ++ [r])).length ≤ bs.length ∧ (catR (m ++ [r])).length = (catR m).length + 12 + r.data.length := by
  obtain ⟨h1, _⟩ := nextL_some h
  obtain ⟨_, q, hq⟩ := oneL_some h1
  have := congrArg List.length hq
  rw [catR_append, catR_one, List.length_append, bytesL_length]
  rw [List.length_append, bytesL_length, List.length_drop] at this
  omega
/-- What a scan keeps to. -/
structure ScanOK (bs : List (BitVec 8)) (m : List Rec) : Prop where
  bytes : ∃ q, bs = catR m ++ q
  ok : ∀ r ∈ m, r.ok = true
  row : ∀ k (h : k + 1 < m.length), m[k + 1].num = m[k].num + 1
theorem scanOK_nil (bs : List (BitVec 8)) : ScanOK bs [] := ⟨⟨bs, rfl⟩, by simp, by simp⟩
theorem scanOK_step {bs : List (BitVec 8)} {m : List Rec} {r : Rec} (hm : ScanOK bs m) (h : nextL bs m = some r) : ScanOK bs (m ++ [r]) := by
  obtain ⟨h1, h2⟩ := nextL_some h
  obtain ⟨h3, q, hq⟩ := oneL_some h1
  obtain ⟨q0, hq0⟩ := hm.bytes
  refine ⟨⟨q, ?_⟩, fun x hx => ?_, fun k hk => ?_⟩
  · rw [hq0, List.drop_left] at hq
    rw [catR_append, catR_one, hq0, hq, List.append_assoc]
  · rcases List.mem_append.1 hx with hx | hx
    · exact hm.ok x hx
    · simp at hx; subst hx; exact h3
  · simp only [List.length_append, List.length_singleton] at hk
    by_cases e : k + 1 < m.length
    · rw [List.getElem_append_left e, List.getElem_append_left (by omega)]
      exact hm.row k e
    · have e2 : k + 1 = m.length := by omega
      rw [List.getElem_append_right (by omega), List.getElem_append_left (by omega)]
      simp only [e2, Nat.sub_self, List.getElem_cons_zero]
      refine h2 m[k] ?_
      rw [List.getLast?_eq_getElem?]
      simp [← e2]
theorem scanF_ok {bs : List (BitVec 8)} : ∀ (f : Nat) (m : List Rec), ScanOK bs m → ScanOK bs (scanF bs f m)
  | 0, m, h => h
  | f + 1, m, h => by
    unfold scanF
    split
    · rename_i r hr
      exact scanF_ok f _ (scanOK_step h hr)
    · exact h
theorem scanF_end {bs : List (BitVec 8)} : ∀ (f : Nat) (m : List Rec), (catR m).length ≤ bs.length → bs.length < f + (catR m).length → nextL bs (scanF bs f m) = none
  | 0, m, h, hf => by omega
  | f + 1, m, h, hf => by
    unfold scanF
    split
    · rename_i r hr
      obtain ⟨g1, g2⟩ := nextL_len hr h
      exact scanF_end f _ g1 (by omega)
    · assumption
theorem scanL_ok (bs : List (BitVec 8)) : ScanOK bs (scanL bs) := scanF_ok _ _ (scanOK_nil bs)
theorem scanL_end (bs : List (BitVec 8)) : nextL bs (scanL bs) = none := scanF_end _ _ (by simp [catR]) (by simp [catR])
/-- A scan is the only list that keeps to the bytes and cannot go on. -/
theorem scanF_unique {bs : List (BitVec 8)} (l : List Rec) (hl : ScanOK bs l) (he : nextL bs l = none) : ∀ (f k : Nat), k ≤ l.length → bs.length < f + (catR (l.take k)).length → scanF bs f (l.take k) = l
  | 0, k, hk, hf => by
    obtain ⟨q, hq⟩ := hl.bytes
    have := congrArg List.length hq
    have h2 := catR_le l k
    rw [List.length_append] at this
    omega
  | f + 1, k, hk, hf => by
    unfold scanF
    by_cases e : k = l.length
    · subst e
      rw [List.take_length, he]
    · have hk' : k < l.length := by omega
      obtain ⟨q, hq⟩ := hl.bytes
      have hn : nextL bs (l.take k) = some l[k] := by
        have h1 : bs.drop (catR (l.take k)).length = bytesL l[k] ++ (catR (l.drop (k + 1)) ++ q) := by
          rw [hq, catR_split hk', List.append_assoc, List.drop_left, List.append_assoc]
        unfold nextL
        rw [h1, oneL_bytes (hl.ok _ (List.getElem_mem hk'))]
        simp only
        split
        · rename_i p hp
          rw [List.getLast?_eq_getElem?, List.length_take, Nat.min_eq_left (by omega)] at hp
          have hk0 : 0 < k := by
            rcases Nat.eq_zero_or_pos k with h0 | h0
            · subst h0; simp at hp
            · exact h0
          have hp' : l[k - 1]? = some p := by
            rw [List.getElem?_take_of_lt (by omega)] at hp
            exact hp
          have := hl.row (k - 1) (by omega)
          have e1 : k - 1 + 1 = k := by omega
          simp only [e1] at this
          rw [List.getElem?_eq_getElem (by omega)] at hp'
          simp only [Option.some.injEq] at hp'
          rw [if_pos (by rw [this, hp'])]
        · rfl
      rw [hn]
      simp only
      rw [List.take_append_getElem hk']
      refine scanF_unique l hl he f (k + 1) (by omega) ?_
      rw [catR_length_step hk']
      omega
theorem scanL_unique {bs : List (BitVec 8)} {l : List Rec} (hl : ScanOK bs l) (he : nextL bs l = none) : scanL bs = l := scanF_unique l hl he (bs.length + 1) 0 (Nat.zero_le _) (by simp [catR])
end Go.Proofs.Ytadnjellfiafaaa.Pm
