/- Texts of this proof in one file: PmFi, PmFj, PmFk, PmFl, PmFm, PmCh, PmKd. No law of Go's is stated here. -/
import Derived.Test.YtadnjellfiafaaaPmMe
import Derived.Test.YtadnjellfiafaaaPmMd
/-! PmFi -/
set_option linter.all false
namespace Go.Proofs.Ytadnjellfiafaaa.Pm
open Go Go.RowKit

theorem getV_num (b0 b1 b2 b3 : BitVec 8) : (getV b0 b1 b2 b3 4).toNat = numL b0 b1 b2 b3 := by
  have h0 := b0.isLt
  have h1 := b1.isLt
  have h2 := b2.isLt
  have h3 := b3.isLt
  have e0 : (0#32 ||| b0.setWidth 32 <<< 0).toNat = b0.toNat := by simp; omega
  have e1 : (b1.setWidth 32 <<< 8).toNat = b1.toNat <<< 8 := by
    rw [BitVec.toNat_shiftLeft, BitVec.toNat_setWidth, Nat.mod_eq_of_lt (by omega : b1.toNat < 2 ^ 32), Nat.mod_eq_of_lt]
    rw [Nat.shiftLeft_eq]; omega
  have e2 : (b2.setWidth 32 <<< 16).toNat = b2.toNat <<< 16 := by
    rw [BitVec.toNat_shiftLeft, BitVec.toNat_setWidth, Nat.mod_eq_of_lt (by omega : b2.toNat < 2 ^ 32), Nat.mod_eq_of_lt]
    rw [Nat.shiftLeft_eq]; omega
  have e3 : (b3.setWidth 32 <<< 24).toNat = b3.toNat <<< 24 := by
    rw [BitVec.toNat_shiftLeft, BitVec.toNat_setWidth, Nat.mod_eq_of_lt (by omega : b3.toNat < 2 ^ 32), Nat.mod_eq_of_lt]
    rw [Nat.shiftLeft_eq]; omega
  show (0#32 ||| b0.setWidth 32 <<< 0 ||| b1.setWidth 32 <<< 8 ||| b2.setWidth 32 <<< 16 ||| b3.setWidth 32 <<< 24).toNat = _
  rw [BitVec.toNat_or, BitVec.toNat_or, BitVec.toNat_or, e0, e1, e2, e3]
  rw [Nat.or_comm b0.toNat, ← Nat.shiftLeft_add_eq_or_of_lt (by omega : b0.toNat < 2 ^ 8)]
  rw [Nat.or_comm _ (b2.toNat <<< 16), ← Nat.shiftLeft_add_eq_or_of_lt (by rw [Nat.shiftLeft_eq]; omega)]
  rw [Nat.or_comm _ (b3.toNat <<< 24), ← Nat.shiftLeft_add_eq_or_of_lt (by rw [Nat.shiftLeft_eq, Nat.shiftLeft_eq]; omega)]
  simp only [Nat.shiftLeft_eq, numL]
  omega
theorem four_nat (n : BitVec 32) : fourL n = [BitVec.ofNat 8 n.toNat, BitVec.ofNat 8 (n.toNat / 256), BitVec.ofNat 8 (n.toNat / 65536), BitVec.ofNat 8 (n.toNat / 16777216)] := by
  unfold fourL
  simp only [List.cons.injEq, and_true]
  refine ⟨?_, ?_, ?_, ?_⟩ <;> apply BitVec.eq_of_toNat_eq <;> simp [Nat.shiftRight_eq_div_pow]
theorem byte_eq {a : BitVec 8} {n : Nat} (h : n % 256 = a.toNat) : BitVec.ofNat 8 n = a := by
  apply BitVec.eq_of_toNat_eq
  simpa using h
theorem four_num {n : BitVec 32} {b0 b1 b2 b3 : BitVec 8} (h : n.toNat = numL b0 b1 b2 b3) : fourL n = [b0, b1, b2, b3] := by
  have h0 := b0.isLt
  have h1 := b1.isLt
  have h2 := b2.isLt
  have h3 := b3.isLt
  unfold numL at h
  rw [four_nat]
  simp only [List.cons.injEq, and_true]
  refine ⟨byte_eq ?_, byte_eq ?_, byte_eq ?_, byte_eq ?_⟩ <;> omega
theorem num_four {n : BitVec 32} {b0 b1 b2 b3 : BitVec 8} (h : fourL n = [b0, b1, b2, b3]) : n.toNat = numL b0 b1 b2 b3 := by
  rw [four_nat] at h
  simp only [List.cons.injEq, and_true] at h
  obtain ⟨rfl, rfl, rfl, rfl⟩ := h
  have := n.isLt
  unfold numL
  simp only [BitVec.toNat_ofNat]
  omega
theorem four_getV (b0 b1 b2 b3 : BitVec 8) : fourL (getV b0 b1 b2 b3 4) = [b0, b1, b2, b3] := four_num (getV_num _ _ _ _)
theorem four_inj {m n : BitVec 32} (h : fourL m = fourL n) : m = n := by
  apply BitVec.eq_of_toNat_eq
  have h1 := num_four (n := m) rfl
  have h2 := num_four (n := n) (b0 := m.setWidth 8) (b1 := (m >>> 8).setWidth 8) (b2 := (m >>> 16).setWidth 8) (b3 := (m >>> 24).setWidth 8) (by rw [← h]; rfl)
  omega

/-- The record with which bytes begin. -/
def oneL : List (BitVec 8) → Option Rec
  | b0 :: b1 :: b2 :: b3 :: c0 :: c1 :: c2 :: c3 :: d0 :: d1 :: d2 :: d3 :: bs =>
    if numL b0 b1 b2 b3 ≤ 1000 ∧ numL b0 b1 b2 b3 ≤ bs.length ∧ numL c0 c1 c2 c3 ≤ 1000000000 ∧ getV d0 d1 d2 d3 4 = updV 0#32 ([b0, b1, b2, b3, c0, c1, c2, c3] ++ bs.take (numL b0 b1 b2 b3)) then some ⟨numL c0 c1 c2 c3, bs.take (numL b0 b1 b2 b3)⟩ else none
  | _ => none
theorem ofInt_nat (n : Nat) : BitVec.ofInt 32 (n : Int) = BitVec.ofNat 32 n := by simp
theorem head_of {b0 b1 b2 b3 c0 c1 c2 c3 : BitVec 8} {r : Rec} (h1 : r.data.length = numL b0 b1 b2 b3) (h2 : r.num = (numL c0 c1 c2 c3 : Nat)) (hb : numL b0 b1 b2 b3 < 4294967296) (hc : numL c0 c1 c2 c3 < 4294967296) : headL r = [b0, b1, b2, b3, c0, c1, c2, c3] := by
  unfold headL
  rw [h1, h2, ofInt_nat, four_num (b0 := b0) (b1 := b1) (b2 := b2) (b3 := b3) (by rw [BitVec.toNat_ofNat]; omega), four_num (b0 := c0) (b1 := c1) (b2 := c2) (b3 := c3) (by rw [BitVec.toNat_ofNat]; omega)]
  rfl
theorem oneL_short {bs : List (BitVec 8)} (h : bs.length < 12) : oneL bs = none := by
  unfold oneL
  split
  · simp at h; omega
  · rfl
/-- What is found is valid, and the bytes begin with its bytes. -/
theorem oneL_some {bs : List (BitVec 8)} {r : Rec} (h : oneL bs = some r) : r.ok = true ∧ ∃ q, bs = bytesL r ++ q := by
  unfold oneL at h
  split at h
  · rename_i b0 b1 b2 b3 c0 c1 c2 c3 d0 d1 d2 d3 bs
    split at h
    · rename_i hc
      obtain ⟨g1, g2, g3, g4⟩ := hc
      simp only [Option.some.injEq] at h
      subst h
      have hl : (bs.take (numL b0 b1 b2 b3)).length = numL b0 b1 b2 b3 := by simp; omega
      refine ⟨(Rec.ok_iff _).2 ⟨by simp only; omega, by simp only; omega, by simp only [hl]; omega⟩, bs.drop (numL b0 b1 b2 b3), ?_⟩
      unfold bytesL
      rw [head_of (r := ⟨numL c0 c1 c2 c3, bs.take (numL b0 b1 b2 b3)⟩) hl rfl (by omega) (by omega), ← g4, four_getV]
      simp
    · cases h
  · cases h
/-- Valid records are found by their bytes. -/
theorem oneL_bytes {r : Rec} (h : r.ok = true) (q : List (BitVec 8)) : oneL (bytesL r ++ q) = some r := by
  obtain ⟨h0, h1, h2⟩ := r.ok_iff.1 h
  obtain ⟨n, hn⟩ : ∃ n : Nat, r.num = n := ⟨r.num.toNat, by omega⟩
  obtain ⟨b0, b1, b2, b3, hb⟩ : ∃ b0 b1 b2 b3, fourL (BitVec.ofNat 32 r.data.length) = [b0, b1, b2, b3] := ⟨_, _, _, _, rfl⟩
  obtain ⟨c0, c1, c2, c3, hc⟩ : ∃ b0 b1 b2 b3, fourL (BitVec.ofInt 32 r.num) = [b0, b1, b2, b3] := ⟨_, _, _, _, rfl⟩
  obtain ⟨d0, d1, d2, d3, hd⟩ : ∃ b0 b1 b2 b3, fourL (updV 0#32 (headL r ++ r.data)) = [b0, b1, b2, b3] := ⟨_, _, _, _, rfl⟩
  have n1 := num_four hb
  have n2 := num_four hc
  rw [BitVec.toNat_ofNat, Nat.mod_eq_of_lt (by omega)] at n1
  rw [hn, ofInt_nat, BitVec.toNat_ofNat, Nat.mod_eq_of_lt (by omega)] at n2
  have n3 : getV d0 d1 d2 d3 4 = updV 0#32 (headL r ++ r.data) := four_inj (by rw [four_getV, hd])
  have hh : headL r = [b0, b1, b2, b3, c0, c1, c2, c3] := by unfold headL; rw [hb, hc]; rfl
  unfold bytesL
  rw [hd, hh]
  rw [hh] at n3
  simp only [List.cons_append, List.nil_append, oneL]
  rw [← n1, ← n2, List.take_left]
  rw [if_pos ⟨by omega, by simp, by omega, by simpa using n3⟩]
  congr 1
  cases r
  simp only at hn ⊢
  rw [hn]
theorem oneL_iff {bs : List (BitVec 8)} {r : Rec} : oneL bs = some r ↔ r.ok = true ∧ startsL bs (bytesL r) = true := by
  constructor
  · intro h
    obtain ⟨h1, q, rfl⟩ := oneL_some h
    exact ⟨h1, by simp [startsL]⟩
  · rintro ⟨h1, h2⟩
    simp only [startsL, Bool.and_eq_true, decide_eq_true_eq, beq_iff_eq] at h2
    rw [← List.take_append_drop (bytesL r).length bs, h2.2]
    exact oneL_bytes h1 _
/-- The record behind some records. -/
def nextL (bs : List (BitVec 8)) (m : List Rec) : Option Rec := match oneL (bs.drop (catR m).length) with
  | some r => match m.getLast? with
    | some p => if r.num = p.num + 1 then some r else none
    | none => some r
  | none => none
def scanF (bs : List (BitVec 8)) : Nat → List Rec → List Rec
  | 0, m => m
  | f + 1, m => match nextL bs m with
    | some r => scanF bs f (m ++ [r])
    | none => m
def scanL (bs : List (BitVec 8)) : List Rec := scanF bs (bs.length + 1) []
theorem catR_append (l m : List Rec) : catR (l ++ m) = catR l ++ catR m := by simp [catR]
theorem catR_split {l : List Rec} {k : Nat} (h : k < l.length) : catR l = catR (l.take k) ++ (bytesL l[k] ++ catR (l.drop (k + 1))) := by
  have : l = l.take k ++ (l[k] :: l.drop (k + 1)) := by rw [List.getElem_cons_drop h, List.take_append_drop]
  conv => lhs; rw [this]
  rw [catR_append]
  have h2 : catR (l[k] :: l.drop (k + 1)) = bytesL l[k] ++ catR (l.drop (k + 1)) := by unfold catR; rw [List.map_cons, List.flatten_cons]
  rw [h2]
theorem catR_one (r : Rec) : catR [r] = bytesL r := by simp [catR]
theorem catR_nil : catR [] = [] := rfl
theorem nextL_some {bs : List (BitVec 8)} {m : List Rec} {r : Rec} (h : nextL bs m = some r) : oneL (bs.drop (catR m).length) = some r ∧ ∀ p, m.getLast? = some p → r.num = p.num + 1 := by
  unfold nextL at h
  split at h
  · rename_i r' h1
    split at h
    · rename_i p hp
      split at h
      · simp only [Option.some.injEq] at h
        subst h
        exact ⟨h1, fun p' hp' => by rw [hp] at hp'; cases hp'; assumption⟩
      · cases h
    · rename_i hp
      simp only [Option.some.injEq] at h
      subst h
      exact ⟨h1, fun p' hp' => by rw [hp] at hp'; cases hp'⟩
  · cases h
theorem nextL_len {bs : List (BitVec 8)} {m : List Rec} {r : Rec} (h : nextL bs m = some r) (hm : (catR m).length ≤ bs.length) : (catR (m ++ [r])).length ≤ bs.length ∧ (catR (m ++ [r])).length = (catR m).length + 12 + r.data.length := by
  obtain ⟨h1, _⟩ := nextL_some h
  obtain ⟨_, q, hq⟩ := oneL_some h1
  have := congrArg List.length hq
  rw [catR_append, catR_one, List.length_append, bytesL_length]
  rw [List.length_append, bytesL_length, List.length_drop] at this
  omega
/-- What a scan keeps to. -/
structure ScanOK (bs : List (BitVec 8)) (m : List Rec) : Prop where
  bytes : ∃ q, bs = catR m ++ q
  ok : ∀ r ∈ m, r.ok = true
  row : ∀ k (h : k + 1 < m.length), m[k + 1].num = m[k].num + 1
theorem scanOK_nil (bs : List (BitVec 8)) : ScanOK bs [] := ⟨⟨bs, rfl⟩, by simp, by simp⟩
theorem scanOK_step {bs : List (BitVec 8)} {m : List Rec} {r : Rec} (hm : ScanOK bs m) (h : nextL bs m = some r) : ScanOK bs (m ++ [r]) := by
  obtain ⟨h1, h2⟩ := nextL_some h
  obtain ⟨h3, q, hq⟩ := oneL_some h1
  obtain ⟨q0, hq0⟩ := hm.bytes
  refine ⟨⟨q, ?_⟩, fun x hx => ?_, fun k hk => ?_⟩
  · rw [hq0, List.drop_left] at hq
    rw [catR_append, catR_one, hq0, hq, List.append_assoc]
  · rcases List.mem_append.1 hx with hx | hx
    · exact hm.ok x hx
    · simp at hx; subst hx; exact h3
  · simp only [List.length_append, List.length_singleton] at hk
    by_cases e : k + 1 < m.length
    · rw [List.getElem_append_left e, List.getElem_append_left (by omega)]
      exact hm.row k e
    · have e2 : k + 1 = m.length := by omega
      rw [List.getElem_append_right (by omega), List.getElem_append_left (by omega)]
      simp only [e2, Nat.sub_self, List.getElem_cons_zero]
      refine h2 m[k] ?_
      rw [List.getLast?_eq_getElem?]
      simp [← e2]
theorem scanF_ok {bs : List (BitVec 8)} : ∀ (f : Nat) (m : List Rec), ScanOK bs m → ScanOK bs (scanF bs f m)
  | 0, m, h => h
  | f + 1, m, h => by
    unfold scanF
    split
    · rename_i r hr
      exact scanF_ok f _ (scanOK_step h hr)
    · exact h
theorem scanF_end {bs : List (BitVec 8)} : ∀ (f : Nat) (m : List Rec), (catR m).length ≤ bs.length → bs.length < f + (catR m).length → nextL bs (scanF bs f m) = none
  | 0, m, h, hf => by omega
  | f + 1, m, h, hf => by
    unfold scanF
    split
    · rename_i r hr
      obtain ⟨g1, g2⟩ := nextL_len hr h
      exact scanF_end f _ g1 (by omega)
    · assumption
theorem scanL_ok (bs : List (BitVec 8)) : ScanOK bs (scanL bs) := scanF_ok _ _ (scanOK_nil bs)
theorem scanL_end (bs : List (BitVec 8)) : nextL bs (scanL bs) = none := scanF_end _ _ (by simp [catR]) (by simp [catR])
/-- A scan is the only list that keeps to the bytes and cannot go on. -/
theorem scanF_unique {bs : List (BitVec 8)} (l : List Rec) (hl : ScanOK bs l) (he : nextL bs l = none) : ∀ (f k : Nat), k ≤ l.length → bs.length < f + (catR (l.take k)).length → scanF bs f (l.take k) = l
  | 0, k, hk, hf => by
    obtain ⟨q, hq⟩ := hl.bytes
    have := congrArg List.length hq
    have h2 := catR_le l k
    rw [List.length_append] at this
    omega
  | f + 1, k, hk, hf => by
    unfold scanF
    by_cases e : k = l.length
    · subst e
      rw [List.take_length, he]
    · have hk' : k < l.length := by omega
      obtain ⟨q, hq⟩ := hl.bytes
      have hn : nextL bs (l.take k) = some l[k] := by
        have h1 : bs.drop (catR (l.take k)).length = bytesL l[k] ++ (catR (l.drop (k + 1)) ++ q) := by
          rw [hq, catR_split hk', List.append_assoc, List.drop_left, List.append_assoc]
        unfold nextL
        rw [h1, oneL_bytes (hl.ok _ (List.getElem_mem hk'))]
        simp only
        split
        · rename_i p hp
          rw [List.getLast?_eq_getElem?, List.length_take, Nat.min_eq_left (by omega)] at hp
          have hk0 : 0 < k := by
            rcases Nat.eq_zero_or_pos k with h0 | h0
            · subst h0; simp at hp
            · exact h0
          have hp' : l[k - 1]? = some p := by
            rw [List.getElem?_take_of_lt (by omega)] at hp
            exact hp
          have := hl.row (k - 1) (by omega)
          have e1 : k - 1 + 1 = k := by omega
          simp only [e1] at this
          rw [List.getElem?_eq_getElem (by omega)] at hp'
          simp only [Option.some.injEq] at hp'
          rw [if_pos (by rw [this, hp'])]
        · rfl
      rw [hn]
      simp only
      rw [List.take_append_getElem hk']
      refine scanF_unique l hl he f (k + 1) (by omega) ?_
      rw [catR_length_step hk']
      omega
theorem scanL_unique {bs : List (BitVec 8)} {l : List Rec} (hl : ScanOK bs l) (he : nextL bs l = none) : scanL bs = l := scanF_unique l hl he (bs.length + 1) 0 (Nat.zero_le _) (by simp [catR])
end Go.Proofs.Ytadnjellfiafaaa.Pm

/-! PmFj -/
set_option linter.all false
set_option maxRecDepth 100000
namespace Go.Proofs.Ytadnjellfiafaaa.Pm
open Go Go.RowKit

/-- Within a stretch with two labels: what holds where the run goes. -/
def jmp (l0 l1 : Nat) (J0 J1 : Nat → S → Prop) (l n : Nat) (s : S) : Prop := (l = l0 ∧ J0 n s) ∨ (l = l1 ∧ J1 n s)
def gotoF (x : Cx) (f : Ex → S → Prop) (k : Kont) (J : Nat → Nat → S → Prop) (e : Ex) (s : S) : Prop := match e with
  | .g l => ∃ n, J l n s
  | e => runK x f k e s
def gotoN (x : Cx) (f : Ex → S → Prop) (k : Kont) (J : Nat → Nat → S → Prop) (n : Nat) (e : Ex) (s : S) : Prop := match e with
  | .g l => ∃ n', n' < n ∧ J l n' s
  | e => runK x f k e s
section
variable (x : Cx) (f : Ex → S → Prop) (k : Kont) (J : Nat → Nat → S → Prop) (n : Nat) (s : S)
theorem gotoF_g (l : Nat) : gotoF x f k J (.g l) s = ∃ n, J l n s := rfl
theorem gotoF_r : gotoF x f k J .r s = Rk x f k .r s .mk := rfl
theorem gotoF_n : gotoF x f k J .n s = Rk x f k .n s .mk := rfl
theorem gotoN_g (l : Nat) : gotoN x f k J n (.g l) s = ∃ n', n' < n ∧ J l n' s := rfl
theorem gotoN_r : gotoN x f k J n .r s = Rk x f k .r s .mk := rfl
theorem gotoN_n : gotoN x f k J n .n s = Rk x f k .n s .mk := rfl
end
attribute [go_sem ↓] gotoF_g gotoF_r gotoF_n gotoN_g gotoN_r gotoN_n
theorem scope_2 {x : Cx} {f : Ex → S → Prop} {k : Kont} {ad : List (Nat × Nat)} {mk : List Nat} {c c0 c1 : C} {l0 l1 : Nat} {s : S} {l : Lock (f, k, c, [(l0, c0), (l1, c1)])} (J0 J1 : Nat → S → Prop) (hne : l0 ≠ l1)
    (h1 : Wk x (gotoF x f k (jmp l0 l1 J0 J1)) .base c s .mk)
    (h2 : ∀ n s, J0 n s → ∃ m, Wk x (gotoN x f k (jmp l0 l1 J0 J1) n) .base c0 (cut mk m (adopt ad s)) .mk)
    (h3 : ∀ n s, J1 n s → ∃ m, Wk x (gotoN x f k (jmp l0 l1 J0 J1) n) .base c1 (cut mk m (adopt ad s)) .mk) : Gk x f k ad mk c [(l0, c0), (l1, c1)] s l := by
  refine ⟨jmp l0 l1 J0 J1, h1, ?_⟩
  rintro l n s (⟨rfl, h⟩ | ⟨rfl, h⟩)
  · obtain ⟨m, hm⟩ := h2 n s h
    refine ⟨m, ?_⟩
    simp only [Ws, if_true]
    exact hm
  · obtain ⟨m, hm⟩ := h3 n s h
    refine ⟨m, ?_⟩
    simp only [Ws, if_neg hne, if_true]
    exact hm
/-- A walk through a stretch that two runs share, whatever follows. -/
theorem Wk_base (x : Cx) (f : Ex → S → Prop) (k : Kont) (c : C) (s : S) (l : Lock f) : Wk x f k c s l = Wk x (fun e s' => Rk x f k e s' .mk) .base c s .mk := rfl
def scanV (r : Rec) : List AV := [.t (.i .i64 r.num) true, .t (.sl (bT r.data)) true]
def scanG (bs : List (BitVec 8)) (m : List Rec) (ver : Nat) (b0 b1 : Blk) : S := ⟨tmL [(0, .t (.sl (bT bs)) false), (5, .row 2 ver 0 m.length), (6, .ptr 0 0), (7, .t (.i .i64 (catR m).length) true)], [b0, b1, .row ver 2 (recsT m) true]⟩
def scanE (bs : List (BitVec 8)) (b0 : Blk) : S := ⟨tmL [(0, .t (.sl (bT bs)) false), (5, .row 1 0 0 0), (6, .ptr 0 0), (7, .t (.i .i64 0) true)], [b0, .row 0 2 [] true]⟩
theorem catR_many (l : List Rec) : 12 * l.length ≤ (catR l).length := by
  induction l with
  | nil => simp
  | cons r l ih =>
    have : catR (r :: l) = bytesL r ++ catR l := by unfold catR; rw [List.map_cons, List.flatten_cons]
    rw [this, List.length_append, bytesL_length, List.length_cons]
    omega
theorem scan_same : c_frame_Scan_52 = c_frame_Scan_24 := rfl
theorem bT_rest (bs : List (BitVec 8)) (k : Nat) (hk : k ≤ bs.length) : List.take ((bs.length : Int) - (k : Int)).toNat (List.drop k (bT bs)) = bT (bs.drop k) := by
  rw [bT_dropN, List.take_of_length_le]
  rw [bT_length, List.length_drop]
  omega
theorem long_split {q : List (BitVec 8)} (h : ¬ q.length < 12) : ∃ b0 b1 b2 b3 c0 c1 c2 c3 d0 d1 d2 d3 bs, q = b0 :: b1 :: b2 :: b3 :: c0 :: c1 :: c2 :: c3 :: d0 :: d1 :: d2 :: d3 :: bs := by
  obtain ⟨x0, q, rfl⟩ := List.exists_cons_of_length_pos (l := q) (by omega)
  obtain ⟨x1, q, rfl⟩ := List.exists_cons_of_length_pos (l := q) (by simp only [List.length_cons] at h; omega)
  obtain ⟨x2, q, rfl⟩ := List.exists_cons_of_length_pos (l := q) (by simp only [List.length_cons] at h; omega)
  obtain ⟨x3, q, rfl⟩ := List.exists_cons_of_length_pos (l := q) (by simp only [List.length_cons] at h; omega)
  obtain ⟨x4, q, rfl⟩ := List.exists_cons_of_length_pos (l := q) (by simp only [List.length_cons] at h; omega)
  obtain ⟨x5, q, rfl⟩ := List.exists_cons_of_length_pos (l := q) (by simp only [List.length_cons] at h; omega)
  obtain ⟨x6, q, rfl⟩ := List.exists_cons_of_length_pos (l := q) (by simp only [List.length_cons] at h; omega)
  obtain ⟨x7, q, rfl⟩ := List.exists_cons_of_length_pos (l := q) (by simp only [List.length_cons] at h; omega)
  obtain ⟨x8, q, rfl⟩ := List.exists_cons_of_length_pos (l := q) (by simp only [List.length_cons] at h; omega)
  obtain ⟨x9, q, rfl⟩ := List.exists_cons_of_length_pos (l := q) (by simp only [List.length_cons] at h; omega)
  obtain ⟨x10, q, rfl⟩ := List.exists_cons_of_length_pos (l := q) (by simp only [List.length_cons] at h; omega)
  obtain ⟨x11, q, rfl⟩ := List.exists_cons_of_length_pos (l := q) (by simp only [List.length_cons] at h; omega)
  exact ⟨_, _, _, _, _, _, _, _, _, _, _, _, _, rfl⟩
theorem scan_round (bs : List (BitVec 8)) (hl : bs.length ≤ 20000) (M : List Rec) (hm : (catR M).length ≤ bs.length) (hM : M ≠ []) (hok : ∀ r ∈ M, r.ok = true) (ver : Nat) (a b : AV) (b1 : Blk) (f : Ex → S → Prop)
    (h0 : ∀ r s', nextL bs M = some r → (∃ b1, cut [0, 5, 6, 7] 3 (adopt [(5, 2)] s') = scanG bs (M ++ [r]) (ver + 1) (.var (scanV r)) b1) → f (.g 0) s')
    (h1 : ∀ s', nextL bs M = none → (∃ b0 b1, cut [0, 5, 6, 7] 3 (adopt [(5, 2)] s') = scanG bs M ver b0 b1) → f (.g 1) s') : Wk X f .base c_frame_Scan_24 (scanG bs M ver (.var [a, b]) b1) .mk := by
  have hle : (((catR M).length : Nat) : Int) ≤ ((bs.length : Nat) : Int) := by omega
  simp -implicitDefEqProofs only [go_sem, reduceIte, Nat.reduceAdd, Nat.reduceSub, Nat.reduceMul, Nat.reduceLT, Nat.reduceLeDiff, Nat.reduceEqDiff, Nat.reduceBEq, Int.reduceLE, Int.reduceLT, Int.reduceToNat, Int.reduceMul, Int.reduceAdd, Int.reduceSub, Int.reduceNeg, Int.reduceEq, reduceCtorEq, Nat.reduceMod, scanG, hle, bT_rest bs _ hm, Int.le_refl]
  refine ⟨.inr (okEs_bT bs), ?_⟩
  generalize hq : bs.drop (catR M).length = q
  by_cases h12 : q.length < 12
  · have e12 : ((q.length : Int) < 12) = True := eq_true (by omega)
    simp -implicitDefEqProofs only [go_sem, reduceIte, Nat.reduceAdd, Nat.reduceSub, Nat.reduceMul, Nat.reduceLT, Nat.reduceLeDiff, Nat.reduceEqDiff, Nat.reduceBEq, Int.reduceLE, Int.reduceLT, Int.reduceToNat, Int.reduceMul, Int.reduceAdd, Int.reduceSub, Int.reduceNeg, Int.reduceEq, reduceCtorEq, Nat.reduceMod, e12]
    refine h1 _ ?_ ?_
    · unfold nextL
      rw [hq, oneL_short h12]
    · simp -implicitDefEqProofs only [go_sem, reduceIte, Nat.reduceAdd, Nat.reduceSub, Nat.reduceMul, Nat.reduceLT, Nat.reduceLeDiff, Nat.reduceEqDiff, Nat.reduceBEq, Int.reduceLE, Int.reduceLT, Int.reduceToNat, Int.reduceMul, Int.reduceAdd, Int.reduceSub, Int.reduceNeg, Int.reduceEq, reduceCtorEq, Nat.reduceMod, scanG]
      exact ⟨_, _, rfl⟩
  · obtain ⟨b0, b1, b2, b3, c0, c1, c2, c3, d0, d1, d2, d3, bs', rfl⟩ := long_split h12
    have hbl : (catR M).length + (bs'.length + 12) = bs.length := by
      have := congrArg List.length hq
      simp only [List.length_drop, List.length_cons] at this
      omega
    have e12 : (((bs'.length + 1 + 1 + 1 + 1 + 1 + 1 + 1 + 1 + 1 + 1 + 1 + 1 : Nat) : Int) < 12) = False := eq_false (by omega)
    simp -implicitDefEqProofs only [go_sem, reduceIte, Nat.reduceAdd, Nat.reduceSub, Nat.reduceMul, Nat.reduceLT, Nat.reduceLeDiff, Nat.reduceEqDiff, Nat.reduceBEq, Int.reduceLE, Int.reduceLT, Int.reduceToNat, Int.reduceMul, Int.reduceAdd, Int.reduceSub, Int.reduceNeg, Int.reduceEq, reduceCtorEq, Nat.reduceMod, e12]
    refine call_k (s_frame_get b0 b1 b2 b3 (c0 :: c1 :: c2 :: c3 :: d0 :: d1 :: d2 :: d3 :: bs') (by simp only [List.length_cons]; omega)) ?_
    have hb := getV_num b0 b1 b2 b3
    have hc := getV_num c0 c1 c2 c3
    have hd := getV_num d0 d1 d2 d3
    have hnone : ¬ (numL b0 b1 b2 b3 ≤ 1000 ∧ numL b0 b1 b2 b3 ≤ bs'.length ∧ numL c0 c1 c2 c3 ≤ 1000000000 ∧ getV d0 d1 d2 d3 4 = updV 0#32 ([b0, b1, b2, b3, c0, c1, c2, c3] ++ bs'.take (numL b0 b1 b2 b3))) → nextL bs M = none := fun h => by
      unfold nextL
      rw [hq]
      simp only [oneL, if_neg h]
    have w12 : IntKind.i64.wrap (((bs'.length + 1 + 1 + 1 + 1 + 1 + 1 + 1 + 1 + 1 + 1 + 1 + 1 : Nat) : Int) - 12) = (bs'.length : Int) := by rw [wrap_i64_id (by omega) (by omega)]; omega
    have wb : IntKind.i64.wrap ((numL b0 b1 b2 b3 : Nat) : Int) = ((numL b0 b1 b2 b3 : Nat) : Int) := by
      have := (getV b0 b1 b2 b3 4).isLt
      rw [wrap_i64_id (by omega) (by omega)]
    by_cases g1 : 1000 < numL b0 b1 b2 b3
    · have f1 : (((numL b0 b1 b2 b3 : Nat) : Int) > 1000) = True := eq_true (by omega)
      simp -implicitDefEqProofs only [go_sem, reduceIte, Nat.reduceAdd, Nat.reduceSub, Nat.reduceMul, Nat.reduceLT, Nat.reduceLeDiff, Nat.reduceEqDiff, Nat.reduceBEq, Int.reduceLE, Int.reduceLT, Int.reduceToNat, Int.reduceMul, Int.reduceAdd, Int.reduceSub, Int.reduceNeg, Int.reduceEq, reduceCtorEq, Nat.reduceMod, hb, f1]
      refine h1 _ (hnone (by omega)) ?_
      simp -implicitDefEqProofs only [go_sem, reduceIte, Nat.reduceAdd, Nat.reduceSub, Nat.reduceMul, Nat.reduceLT, Nat.reduceLeDiff, Nat.reduceEqDiff, Nat.reduceBEq, Int.reduceLE, Int.reduceLT, Int.reduceToNat, Int.reduceMul, Int.reduceAdd, Int.reduceSub, Int.reduceNeg, Int.reduceEq, reduceCtorEq, Nat.reduceMod, scanG]
      exact ⟨_, _, rfl⟩
    have f1 : (((numL b0 b1 b2 b3 : Nat) : Int) > 1000) = False := eq_false (by omega)
    by_cases g2 : bs'.length < numL b0 b1 b2 b3
    · have f2 : (((numL b0 b1 b2 b3 : Nat) : Int) > ((bs'.length : Nat) : Int)) = True := eq_true (by omega)
      simp -implicitDefEqProofs only [go_sem, reduceIte, Nat.reduceAdd, Nat.reduceSub, Nat.reduceMul, Nat.reduceLT, Nat.reduceLeDiff, Nat.reduceEqDiff, Nat.reduceBEq, Int.reduceLE, Int.reduceLT, Int.reduceToNat, Int.reduceMul, Int.reduceAdd, Int.reduceSub, Int.reduceNeg, Int.reduceEq, reduceCtorEq, Nat.reduceMod, hb, f1, w12, wb, f2]
      refine h1 _ (hnone (by omega)) ?_
      simp -implicitDefEqProofs only [go_sem, reduceIte, Nat.reduceAdd, Nat.reduceSub, Nat.reduceMul, Nat.reduceLT, Nat.reduceLeDiff, Nat.reduceEqDiff, Nat.reduceBEq, Int.reduceLE, Int.reduceLT, Int.reduceToNat, Int.reduceMul, Int.reduceAdd, Int.reduceSub, Int.reduceNeg, Int.reduceEq, reduceCtorEq, Nat.reduceMod, scanG]
      exact ⟨_, _, rfl⟩
    have f2 : (((numL b0 b1 b2 b3 : Nat) : Int) > ((bs'.length : Nat) : Int)) = False := eq_false (by omega)
    simp -implicitDefEqProofs only [go_sem, reduceIte, Nat.reduceAdd, Nat.reduceSub, Nat.reduceMul, Nat.reduceLT, Nat.reduceLeDiff, Nat.reduceEqDiff, Nat.reduceBEq, Int.reduceLE, Int.reduceLT, Int.reduceToNat, Int.reduceMul, Int.reduceAdd, Int.reduceSub, Int.reduceNeg, Int.reduceEq, reduceCtorEq, Nat.reduceMod, hb, f1, w12, wb, f2]
    have wc : IntKind.i64.wrap ((numL c0 c1 c2 c3 : Nat) : Int) = ((numL c0 c1 c2 c3 : Nat) : Int) := by
      have := (getV c0 c1 c2 c3 4).isLt
      rw [wrap_i64_id (by omega) (by omega)]
    have e4 : List.take (((bs'.length + 1 + 1 + 1 + 1 + 1 + 1 + 1 + 1 + 1 + 1 + 1 + 1 : Nat) : Int) - 4).toNat (List.drop 4 (bT (b0 :: b1 :: b2 :: b3 :: c0 :: c1 :: c2 :: c3 :: d0 :: d1 :: d2 :: d3 :: bs'))) = bT (c0 :: c1 :: c2 :: c3 :: d0 :: d1 :: d2 :: d3 :: bs') :=
      bT_rest (b0 :: b1 :: b2 :: b3 :: c0 :: c1 :: c2 :: c3 :: d0 :: d1 :: d2 :: d3 :: bs') 4 (by simp)
    have e8 : List.take (((bs'.length + 1 + 1 + 1 + 1 + 1 + 1 + 1 + 1 + 1 + 1 + 1 + 1 : Nat) : Int) - 8).toNat (List.drop 8 (bT (b0 :: b1 :: b2 :: b3 :: c0 :: c1 :: c2 :: c3 :: d0 :: d1 :: d2 :: d3 :: bs'))) = bT (d0 :: d1 :: d2 :: d3 :: bs') :=
      bT_rest (b0 :: b1 :: b2 :: b3 :: c0 :: c1 :: c2 :: c3 :: d0 :: d1 :: d2 :: d3 :: bs') 8 (by simp)
    have w2 : IntKind.i64.wrap (12 + ((numL b0 b1 b2 b3 : Nat) : Int)) = ((12 + numL b0 b1 b2 b3 : Nat) : Int) := by rw [wrap_i64_id (by omega) (by omega)]; omega
    have ed : List.take (((12 + numL b0 b1 b2 b3 : Nat) : Int) - 12).toNat (List.drop 12 (bT (b0 :: b1 :: b2 :: b3 :: c0 :: c1 :: c2 :: c3 :: d0 :: d1 :: d2 :: d3 :: bs'))) = bT (bs'.take (numL b0 b1 b2 b3)) := by
      rw [show (((12 + numL b0 b1 b2 b3 : Nat) : Int) - 12).toNat = numL b0 b1 b2 b3 by omega, bT_dropN, bT_takeN]
      rfl
    refine ⟨⟨⟨by omega, by omega⟩, okEs_bT _⟩, ?_⟩
    refine call_k (s_frame_get c0 c1 c2 c3 (d0 :: d1 :: d2 :: d3 :: bs') (by simp only [List.length_cons]; omega)) ?_ (by simp -implicitDefEqProofs only [go_sem, reduceIte, Nat.reduceAdd, Nat.reduceSub, Nat.reduceMul, Nat.reduceLT, Nat.reduceLeDiff, Nat.reduceEqDiff, Nat.reduceBEq, Int.reduceLE, Int.reduceLT, Int.reduceToNat, Int.reduceMul, Int.reduceAdd, Int.reduceSub, Int.reduceNeg, Int.reduceEq, reduceCtorEq, Nat.reduceMod, e4])
    simp -implicitDefEqProofs only [go_sem, reduceIte, Nat.reduceAdd, Nat.reduceSub, Nat.reduceMul, Nat.reduceLT, Nat.reduceLeDiff, Nat.reduceEqDiff, Nat.reduceBEq, Int.reduceLE, Int.reduceLT, Int.reduceToNat, Int.reduceMul, Int.reduceAdd, Int.reduceSub, Int.reduceNeg, Int.reduceEq, reduceCtorEq, Nat.reduceMod]
    refine call_k (s_frame_get b0 b1 b2 b3 (c0 :: c1 :: c2 :: c3 :: d0 :: d1 :: d2 :: d3 :: bs') (by simp only [List.length_cons]; omega)) ?_
    simp -implicitDefEqProofs only [go_sem, reduceIte, Nat.reduceAdd, Nat.reduceSub, Nat.reduceMul, Nat.reduceLT, Nat.reduceLeDiff, Nat.reduceEqDiff, Nat.reduceBEq, Int.reduceLE, Int.reduceLT, Int.reduceToNat, Int.reduceMul, Int.reduceAdd, Int.reduceSub, Int.reduceNeg, Int.reduceEq, reduceCtorEq, Nat.reduceMod, hb, hc, wb, wc, w2]
    refine ⟨⟨⟨by omega, by omega⟩, okEs_bT _⟩, ?_⟩
    refine call_k (s_bytes_Clone (bs'.take (numL b0 b1 b2 b3)) (by rw [List.length_take]; omega)) ?_ (by simp -implicitDefEqProofs only [go_sem, reduceIte, Nat.reduceAdd, Nat.reduceSub, Nat.reduceMul, Nat.reduceLT, Nat.reduceLeDiff, Nat.reduceEqDiff, Nat.reduceBEq, Int.reduceLE, Int.reduceLT, Int.reduceToNat, Int.reduceMul, Int.reduceAdd, Int.reduceSub, Int.reduceNeg, Int.reduceEq, reduceCtorEq, Nat.reduceMod, ed])
    by_cases g3 : 1000000000 < numL c0 c1 c2 c3
    · have f3 : (((numL c0 c1 c2 c3 : Nat) : Int) > 1000000000) = True := eq_true (by omega)
      simp -implicitDefEqProofs only [go_sem, reduceIte, Nat.reduceAdd, Nat.reduceSub, Nat.reduceMul, Nat.reduceLT, Nat.reduceLeDiff, Nat.reduceEqDiff, Nat.reduceBEq, Int.reduceLE, Int.reduceLT, Int.reduceToNat, Int.reduceMul, Int.reduceAdd, Int.reduceSub, Int.reduceNeg, Int.reduceEq, reduceCtorEq, Nat.reduceMod, hc, wc, f3]
      refine h1 _ (hnone (by omega)) ?_
      simp -implicitDefEqProofs only [go_sem, reduceIte, Nat.reduceAdd, Nat.reduceSub, Nat.reduceMul, Nat.reduceLT, Nat.reduceLeDiff, Nat.reduceEqDiff, Nat.reduceBEq, Int.reduceLE, Int.reduceLT, Int.reduceToNat, Int.reduceMul, Int.reduceAdd, Int.reduceSub, Int.reduceNeg, Int.reduceEq, reduceCtorEq, Nat.reduceMod, scanG]
      exact ⟨_, _, rfl⟩
    have f3 : (((numL c0 c1 c2 c3 : Nat) : Int) > 1000000000) = False := eq_false (by omega)
    simp -implicitDefEqProofs only [go_sem, reduceIte, Nat.reduceAdd, Nat.reduceSub, Nat.reduceMul, Nat.reduceLT, Nat.reduceLeDiff, Nat.reduceEqDiff, Nat.reduceBEq, Int.reduceLE, Int.reduceLT, Int.reduceToNat, Int.reduceMul, Int.reduceAdd, Int.reduceSub, Int.reduceNeg, Int.reduceEq, reduceCtorEq, Nat.reduceMod, hc, wc, f3]
    refine ⟨⟨⟨by omega, by omega⟩, okEs_bT _⟩, ?_⟩
    refine call_d (s_frame_get d0 d1 d2 d3 bs' (by omega)) ?_ (by simp -implicitDefEqProofs only [go_sem, reduceIte, Nat.reduceAdd, Nat.reduceSub, Nat.reduceMul, Nat.reduceLT, Nat.reduceLeDiff, Nat.reduceEqDiff, Nat.reduceBEq, Int.reduceLE, Int.reduceLT, Int.reduceToNat, Int.reduceMul, Int.reduceAdd, Int.reduceSub, Int.reduceNeg, Int.reduceEq, reduceCtorEq, Nat.reduceMod, e8])
    simp -implicitDefEqProofs only [go_sem, reduceIte, Nat.reduceAdd, Nat.reduceSub, Nat.reduceMul, Nat.reduceLT, Nat.reduceLeDiff, Nat.reduceEqDiff, Nat.reduceBEq, Int.reduceLE, Int.reduceLT, Int.reduceToNat, Int.reduceMul, Int.reduceAdd, Int.reduceSub, Int.reduceNeg, Int.reduceEq, reduceCtorEq, Nat.reduceMod, Int.natCast_zero]
    refine ⟨⟨by omega, .inl trivial⟩, ?_⟩
    refine call_d (s_frame_sum [b0, b1, b2, b3, c0, c1, c2, c3] (bs'.take (numL b0 b1 b2 b3)) (by simp) (by rw [List.length_take]; omega)) ?_ ?_
    · by_cases g4 : getV d0 d1 d2 d3 4 = updV 0#32 (b0 :: b1 :: b2 :: b3 :: c0 :: c1 :: c2 :: c3 :: bs'.take (numL b0 b1 b2 b3))
      · have f4 : (((getV d0 d1 d2 d3 4).toNat : Int) != ((updV 0#32 (b0 :: b1 :: b2 :: b3 :: c0 :: c1 :: c2 :: c3 :: bs'.take (numL b0 b1 b2 b3))).toNat : Int)) = false := by rw [g4]; simp
        have hone : oneL (bs.drop (catR M).length) = some ⟨numL c0 c1 c2 c3, bs'.take (numL b0 b1 b2 b3)⟩ := by
          rw [hq]
          simp only [oneL]
          rw [if_pos ⟨by omega, by omega, by omega, g4⟩]
        obtain ⟨p, hp⟩ : ∃ p, M.getLast? = some p := by
          cases hx : M.getLast? with
          | none => exact (hM (List.getLast?_eq_none_iff.1 hx)).elim
          | some p => exact ⟨p, rfl⟩
        have hpos : 0 < M.length := List.length_pos_iff.2 hM
        have hgt : ((M.length : Int) > 0) = True := eq_true (by omega)
        have hix : (M.length : Int) - 1 = ((M.length - 1 : Nat) : Int) := by omega
        have hw1 : IntKind.i64.wrap ((M.length : Int) - 1) = ((M.length - 1 : Nat) : Int) := by
          have := catR_many M
          rw [wrap_i64_id (by omega) (by omega)]; omega
        have hpm : p ∈ M := List.mem_of_getLast? hp
        obtain ⟨k0, k1, k2⟩ := p.ok_iff.1 (hok p hpm)
        have wp : IntKind.i64.wrap (p.num + 1) = p.num + 1 := wrap_i64_id (by omega) (by omega)
        have hlt1 : (((M.length - 1 : Nat) : Int) < (M.length : Int)) = True := eq_true (by omega)
        have hget : (recsT M)[M.length - 1]? = some p.cells := by
          rw [List.getLast?_eq_getElem?] at hp
          simp [recsT, hp]
        simp -implicitDefEqProofs only [go_sem, reduceIte, Nat.reduceAdd, Nat.reduceSub, Nat.reduceMul, Nat.reduceLT, Nat.reduceLeDiff, Nat.reduceEqDiff, Nat.reduceBEq, Int.reduceLE, Int.reduceLT, Int.reduceToNat, Int.reduceMul, Int.reduceAdd, Int.reduceSub, Int.reduceNeg, Int.reduceEq, reduceCtorEq, Nat.reduceMod, f4, recsT_length, hgt, hw1, hlt1, hget, Rec.cells, wp]
        by_cases g5 : p.num + 1 = (numL c0 c1 c2 c3 : Nat)
        · have f5 : (p.num + 1 != ((numL c0 c1 c2 c3 : Nat) : Int)) = false := by rw [g5]; simp
          have hnx : nextL bs M = some ⟨numL c0 c1 c2 c3, bs'.take (numL b0 b1 b2 b3)⟩ := by
            unfold nextL
            rw [hone]
            simp only [hp]
            rw [if_pos g5.symm]
          have hln := (nextL_len hnx hm).2
          simp only at hln
          have hcm := catR_many M
          have hdl : (bs'.take (numL b0 b1 b2 b3)).length = numL b0 b1 b2 b3 := by rw [List.length_take]; omega
          have wl : IntKind.i64.wrap (12 + (((bs'.take (numL b0 b1 b2 b3)).length : Nat) : Int)) = ((12 + (bs'.take (numL b0 b1 b2 b3)).length : Nat) : Int) := by rw [wrap_i64_id (by omega) (by omega)]; omega
          have wa : IntKind.i64.wrap (((catR M).length : Int) + ((12 + (bs'.take (numL b0 b1 b2 b3)).length : Nat) : Int)) = (((catR (M ++ [(⟨numL c0 c1 c2 c3, bs'.take (numL b0 b1 b2 b3)⟩ : Rec)])).length : Nat) : Int) := by rw [wrap_i64_id (by omega) (by omega)]; omega
          simp -implicitDefEqProofs only [go_sem, reduceIte, Nat.reduceAdd, Nat.reduceSub, Nat.reduceMul, Nat.reduceLT, Nat.reduceLeDiff, Nat.reduceEqDiff, Nat.reduceBEq, Int.reduceLE, Int.reduceLT, Int.reduceToNat, Int.reduceMul, Int.reduceAdd, Int.reduceSub, Int.reduceNeg, Int.reduceEq, reduceCtorEq, Nat.reduceMod, f5, wl, wa]
          refine ⟨⟨by simp [okEs, T.one], by rw [recsT_length]; exact Nat.le_refl _, by unfold room; omega⟩, h0 _ _ hnx ?_⟩
          simp -implicitDefEqProofs only [go_sem, reduceIte, Nat.reduceAdd, Nat.reduceSub, Nat.reduceMul, Nat.reduceLT, Nat.reduceLeDiff, Nat.reduceEqDiff, Nat.reduceBEq, Int.reduceLE, Int.reduceLT, Int.reduceToNat, Int.reduceMul, Int.reduceAdd, Int.reduceSub, Int.reduceNeg, Int.reduceEq, reduceCtorEq, Nat.reduceMod, scanG, scanV]
          have e1 : List.take M.length (recsT M) ++ [[T.i .i64 (numL c0 c1 c2 c3), T.sl (bT (bs'.take (numL b0 b1 b2 b3)))]] = recsT (M ++ [(⟨numL c0 c1 c2 c3, bs'.take (numL b0 b1 b2 b3)⟩ : Rec)]) := by
            rw [List.take_of_length_le (by rw [recsT_length]; exact Nat.le_refl _)]
            simp [recsT, Rec.cells]
          have e2 : (M ++ [(⟨numL c0 c1 c2 c3, bs'.take (numL b0 b1 b2 b3)⟩ : Rec)]).length = M.length + 1 := by simp
          rw [e1, e2]
          exact ⟨_, rfl⟩
        · have f5 : (p.num + 1 != ((numL c0 c1 c2 c3 : Nat) : Int)) = true := by rw [bne_iff_ne]; exact g5
          simp -implicitDefEqProofs only [go_sem, reduceIte, Nat.reduceAdd, Nat.reduceSub, Nat.reduceMul, Nat.reduceLT, Nat.reduceLeDiff, Nat.reduceEqDiff, Nat.reduceBEq, Int.reduceLE, Int.reduceLT, Int.reduceToNat, Int.reduceMul, Int.reduceAdd, Int.reduceSub, Int.reduceNeg, Int.reduceEq, reduceCtorEq, Nat.reduceMod, f5]
          refine h1 _ ?_ ?_
          · unfold nextL
            rw [hone]
            simp only [hp]
            rw [if_neg (fun e => g5 e.symm)]
          · simp -implicitDefEqProofs only [go_sem, reduceIte, Nat.reduceAdd, Nat.reduceSub, Nat.reduceMul, Nat.reduceLT, Nat.reduceLeDiff, Nat.reduceEqDiff, Nat.reduceBEq, Int.reduceLE, Int.reduceLT, Int.reduceToNat, Int.reduceMul, Int.reduceAdd, Int.reduceSub, Int.reduceNeg, Int.reduceEq, reduceCtorEq, Nat.reduceMod, scanG]
            exact ⟨_, _, rfl⟩
      · have f4 : (((getV d0 d1 d2 d3 4).toNat : Int) != ((updV 0#32 (b0 :: b1 :: b2 :: b3 :: c0 :: c1 :: c2 :: c3 :: bs'.take (numL b0 b1 b2 b3))).toNat : Int)) = true := by
          rw [bne_iff_ne]
          intro e
          exact g4 (BitVec.eq_of_toNat_eq (by omega))
        simp -implicitDefEqProofs only [go_sem, reduceIte, Nat.reduceAdd, Nat.reduceSub, Nat.reduceMul, Nat.reduceLT, Nat.reduceLeDiff, Nat.reduceEqDiff, Nat.reduceBEq, Int.reduceLE, Int.reduceLT, Int.reduceToNat, Int.reduceMul, Int.reduceAdd, Int.reduceSub, Int.reduceNeg, Int.reduceEq, reduceCtorEq, Nat.reduceMod, f4]
        refine h1 _ (hnone fun h => g4 h.2.2.2) ?_
        simp -implicitDefEqProofs only [go_sem, reduceIte, Nat.reduceAdd, Nat.reduceSub, Nat.reduceMul, Nat.reduceLT, Nat.reduceLeDiff, Nat.reduceEqDiff, Nat.reduceBEq, Int.reduceLE, Int.reduceLT, Int.reduceToNat, Int.reduceMul, Int.reduceAdd, Int.reduceSub, Int.reduceNeg, Int.reduceEq, reduceCtorEq, Nat.reduceMod, scanG]
        exact ⟨_, _, rfl⟩
    · simp -implicitDefEqProofs only [go_sem, reduceIte, Nat.reduceAdd, Nat.reduceSub, Nat.reduceMul, Nat.reduceLT, Nat.reduceLeDiff, Nat.reduceEqDiff, Nat.reduceBEq, Int.reduceLE, Int.reduceLT, Int.reduceToNat, Int.reduceMul, Int.reduceAdd, Int.reduceSub, Int.reduceNeg, Int.reduceEq, reduceCtorEq, Nat.reduceMod]
      rfl
theorem scan_first (bs : List (BitVec 8)) (hl : bs.length ≤ 20000) (f : Ex → S → Prop)
    (h0 : ∀ r s', nextL bs [] = some r → (∃ b1, cut [0, 5, 6, 7] 3 (adopt [(5, 2)] s') = scanG bs [r] 0 (.var (scanV r)) b1) → f (.g 0) s')
    (h1 : ∀ s', nextL bs [] = none → (∃ b0, cut [0, 5, 6, 7] 3 (adopt [(5, 2)] s') = scanE bs b0) → f (.g 1) s') : Wk X f .base c_frame_Scan_24 ⟨tmL [(0, .t (.sl (bT bs)) false), (5, .nl), (6, .ptr 0 0), (7, .t (.i .i64 0) true)], [.var [.t (.i .i64 0) true, .nl]]⟩ .mk := by
  have hn0 : (0 : Int) ≤ ((bs.length : Nat) : Int) := by omega
  simp -implicitDefEqProofs only [go_sem, reduceIte, Nat.reduceAdd, Nat.reduceSub, Nat.reduceMul, Nat.reduceLT, Nat.reduceLeDiff, Nat.reduceEqDiff, Nat.reduceBEq, Int.reduceLE, Int.reduceLT, Int.reduceToNat, Int.reduceMul, Int.reduceAdd, Int.reduceSub, Int.reduceNeg, Int.reduceEq, reduceCtorEq, Nat.reduceMod, hn0, Int.sub_zero, bT_take_self, Int.le_refl]
  refine ⟨.inl trivial, ?_⟩
  by_cases h12 : bs.length < 12
  · have e12 : ((bs.length : Int) < 12) = True := eq_true (by omega)
    simp -implicitDefEqProofs only [go_sem, reduceIte, Nat.reduceAdd, Nat.reduceSub, Nat.reduceMul, Nat.reduceLT, Nat.reduceLeDiff, Nat.reduceEqDiff, Nat.reduceBEq, Int.reduceLE, Int.reduceLT, Int.reduceToNat, Int.reduceMul, Int.reduceAdd, Int.reduceSub, Int.reduceNeg, Int.reduceEq, reduceCtorEq, Nat.reduceMod, e12]
    refine h1 _ ?_ ?_
    · unfold nextL
      rw [catR_nil, List.length_nil, List.drop_zero, oneL_short h12]
    · simp -implicitDefEqProofs only [go_sem, reduceIte, Nat.reduceAdd, Nat.reduceSub, Nat.reduceMul, Nat.reduceLT, Nat.reduceLeDiff, Nat.reduceEqDiff, Nat.reduceBEq, Int.reduceLE, Int.reduceLT, Int.reduceToNat, Int.reduceMul, Int.reduceAdd, Int.reduceSub, Int.reduceNeg, Int.reduceEq, reduceCtorEq, Nat.reduceMod, scanE]
      exact ⟨_, rfl⟩
  · obtain ⟨b0, b1, b2, b3, c0, c1, c2, c3, d0, d1, d2, d3, bs', rfl⟩ := long_split h12
    have hbl : bs'.length + 12 ≤ 20000 := by
      simp only [List.length_cons] at hl
      omega
    have e12 : (((bs'.length + 1 + 1 + 1 + 1 + 1 + 1 + 1 + 1 + 1 + 1 + 1 + 1 : Nat) : Int) < 12) = False := eq_false (by omega)
    simp -implicitDefEqProofs only [go_sem, reduceIte, Nat.reduceAdd, Nat.reduceSub, Nat.reduceMul, Nat.reduceLT, Nat.reduceLeDiff, Nat.reduceEqDiff, Nat.reduceBEq, Int.reduceLE, Int.reduceLT, Int.reduceToNat, Int.reduceMul, Int.reduceAdd, Int.reduceSub, Int.reduceNeg, Int.reduceEq, reduceCtorEq, Nat.reduceMod, e12]
    refine call_k (s_frame_get b0 b1 b2 b3 (c0 :: c1 :: c2 :: c3 :: d0 :: d1 :: d2 :: d3 :: bs') (by simp only [List.length_cons]; omega)) ?_
    have hb := getV_num b0 b1 b2 b3
    have hc := getV_num c0 c1 c2 c3
    have hd := getV_num d0 d1 d2 d3
    have hnone : ¬ (numL b0 b1 b2 b3 ≤ 1000 ∧ numL b0 b1 b2 b3 ≤ bs'.length ∧ numL c0 c1 c2 c3 ≤ 1000000000 ∧ getV d0 d1 d2 d3 4 = updV 0#32 ([b0, b1, b2, b3, c0, c1, c2, c3] ++ bs'.take (numL b0 b1 b2 b3))) → nextL (b0 :: b1 :: b2 :: b3 :: c0 :: c1 :: c2 :: c3 :: d0 :: d1 :: d2 :: d3 :: bs') [] = none := fun h => by
      unfold nextL
      rw [catR_nil, List.length_nil, List.drop_zero]
      simp only [oneL, if_neg h]
    have w12 : IntKind.i64.wrap (((bs'.length + 1 + 1 + 1 + 1 + 1 + 1 + 1 + 1 + 1 + 1 + 1 + 1 : Nat) : Int) - 12) = (bs'.length : Int) := by rw [wrap_i64_id (by omega) (by omega)]; omega
    have wb : IntKind.i64.wrap ((numL b0 b1 b2 b3 : Nat) : Int) = ((numL b0 b1 b2 b3 : Nat) : Int) := by
      have := (getV b0 b1 b2 b3 4).isLt
      rw [wrap_i64_id (by omega) (by omega)]
    by_cases g1 : 1000 < numL b0 b1 b2 b3
    · have f1 : (((numL b0 b1 b2 b3 : Nat) : Int) > 1000) = True := eq_true (by omega)
      simp -implicitDefEqProofs only [go_sem, reduceIte, Nat.reduceAdd, Nat.reduceSub, Nat.reduceMul, Nat.reduceLT, Nat.reduceLeDiff, Nat.reduceEqDiff, Nat.reduceBEq, Int.reduceLE, Int.reduceLT, Int.reduceToNat, Int.reduceMul, Int.reduceAdd, Int.reduceSub, Int.reduceNeg, Int.reduceEq, reduceCtorEq, Nat.reduceMod, hb, f1]
      refine h1 _ (hnone (by omega)) ?_
      simp -implicitDefEqProofs only [go_sem, reduceIte, Nat.reduceAdd, Nat.reduceSub, Nat.reduceMul, Nat.reduceLT, Nat.reduceLeDiff, Nat.reduceEqDiff, Nat.reduceBEq, Int.reduceLE, Int.reduceLT, Int.reduceToNat, Int.reduceMul, Int.reduceAdd, Int.reduceSub, Int.reduceNeg, Int.reduceEq, reduceCtorEq, Nat.reduceMod, scanE]
      exact ⟨_, rfl⟩
    have f1 : (((numL b0 b1 b2 b3 : Nat) : Int) > 1000) = False := eq_false (by omega)
    by_cases g2 : bs'.length < numL b0 b1 b2 b3
    · have f2 : (((numL b0 b1 b2 b3 : Nat) : Int) > ((bs'.length : Nat) : Int)) = True := eq_true (by omega)
      simp -implicitDefEqProofs only [go_sem, reduceIte, Nat.reduceAdd, Nat.reduceSub, Nat.reduceMul, Nat.reduceLT, Nat.reduceLeDiff, Nat.reduceEqDiff, Nat.reduceBEq, Int.reduceLE, Int.reduceLT, Int.reduceToNat, Int.reduceMul, Int.reduceAdd, Int.reduceSub, Int.reduceNeg, Int.reduceEq, reduceCtorEq, Nat.reduceMod, hb, f1, w12, wb, f2]
      refine h1 _ (hnone (by omega)) ?_
      simp -implicitDefEqProofs only [go_sem, reduceIte, Nat.reduceAdd, Nat.reduceSub, Nat.reduceMul, Nat.reduceLT, Nat.reduceLeDiff, Nat.reduceEqDiff, Nat.reduceBEq, Int.reduceLE, Int.reduceLT, Int.reduceToNat, Int.reduceMul, Int.reduceAdd, Int.reduceSub, Int.reduceNeg, Int.reduceEq, reduceCtorEq, Nat.reduceMod, scanE]
      exact ⟨_, rfl⟩
    have f2 : (((numL b0 b1 b2 b3 : Nat) : Int) > ((bs'.length : Nat) : Int)) = False := eq_false (by omega)
    simp -implicitDefEqProofs only [go_sem, reduceIte, Nat.reduceAdd, Nat.reduceSub, Nat.reduceMul, Nat.reduceLT, Nat.reduceLeDiff, Nat.reduceEqDiff, Nat.reduceBEq, Int.reduceLE, Int.reduceLT, Int.reduceToNat, Int.reduceMul, Int.reduceAdd, Int.reduceSub, Int.reduceNeg, Int.reduceEq, reduceCtorEq, Nat.reduceMod, hb, f1, w12, wb, f2]
    have wc : IntKind.i64.wrap ((numL c0 c1 c2 c3 : Nat) : Int) = ((numL c0 c1 c2 c3 : Nat) : Int) := by
      have := (getV c0 c1 c2 c3 4).isLt
      rw [wrap_i64_id (by omega) (by omega)]
    have e4 : List.take (((bs'.length + 1 + 1 + 1 + 1 + 1 + 1 + 1 + 1 + 1 + 1 + 1 + 1 : Nat) : Int) - 4).toNat (List.drop 4 (bT (b0 :: b1 :: b2 :: b3 :: c0 :: c1 :: c2 :: c3 :: d0 :: d1 :: d2 :: d3 :: bs'))) = bT (c0 :: c1 :: c2 :: c3 :: d0 :: d1 :: d2 :: d3 :: bs') :=
      bT_rest (b0 :: b1 :: b2 :: b3 :: c0 :: c1 :: c2 :: c3 :: d0 :: d1 :: d2 :: d3 :: bs') 4 (by simp)
    have e8 : List.take (((bs'.length + 1 + 1 + 1 + 1 + 1 + 1 + 1 + 1 + 1 + 1 + 1 + 1 : Nat) : Int) - 8).toNat (List.drop 8 (bT (b0 :: b1 :: b2 :: b3 :: c0 :: c1 :: c2 :: c3 :: d0 :: d1 :: d2 :: d3 :: bs'))) = bT (d0 :: d1 :: d2 :: d3 :: bs') :=
      bT_rest (b0 :: b1 :: b2 :: b3 :: c0 :: c1 :: c2 :: c3 :: d0 :: d1 :: d2 :: d3 :: bs') 8 (by simp)
    have w2 : IntKind.i64.wrap (12 + ((numL b0 b1 b2 b3 : Nat) : Int)) = ((12 + numL b0 b1 b2 b3 : Nat) : Int) := by rw [wrap_i64_id (by omega) (by omega)]; omega
    have ed : List.take (((12 + numL b0 b1 b2 b3 : Nat) : Int) - 12).toNat (List.drop 12 (bT (b0 :: b1 :: b2 :: b3 :: c0 :: c1 :: c2 :: c3 :: d0 :: d1 :: d2 :: d3 :: bs'))) = bT (bs'.take (numL b0 b1 b2 b3)) := by
      rw [show (((12 + numL b0 b1 b2 b3 : Nat) : Int) - 12).toNat = numL b0 b1 b2 b3 by omega, bT_dropN, bT_takeN]
      rfl
    refine ⟨⟨⟨by omega, by omega⟩, okEs_bT _⟩, ?_⟩
    refine call_k (s_frame_get c0 c1 c2 c3 (d0 :: d1 :: d2 :: d3 :: bs') (by simp only [List.length_cons]; omega)) ?_ (by simp -implicitDefEqProofs only [go_sem, reduceIte, Nat.reduceAdd, Nat.reduceSub, Nat.reduceMul, Nat.reduceLT, Nat.reduceLeDiff, Nat.reduceEqDiff, Nat.reduceBEq, Int.reduceLE, Int.reduceLT, Int.reduceToNat, Int.reduceMul, Int.reduceAdd, Int.reduceSub, Int.reduceNeg, Int.reduceEq, reduceCtorEq, Nat.reduceMod, e4])
    simp -implicitDefEqProofs only [go_sem, reduceIte, Nat.reduceAdd, Nat.reduceSub, Nat.reduceMul, Nat.reduceLT, Nat.reduceLeDiff, Nat.reduceEqDiff, Nat.reduceBEq, Int.reduceLE, Int.reduceLT, Int.reduceToNat, Int.reduceMul, Int.reduceAdd, Int.reduceSub, Int.reduceNeg, Int.reduceEq, reduceCtorEq, Nat.reduceMod]
    refine call_k (s_frame_get b0 b1 b2 b3 (c0 :: c1 :: c2 :: c3 :: d0 :: d1 :: d2 :: d3 :: bs') (by simp only [List.length_cons]; omega)) ?_
    simp -implicitDefEqProofs only [go_sem, reduceIte, Nat.reduceAdd, Nat.reduceSub, Nat.reduceMul, Nat.reduceLT, Nat.reduceLeDiff, Nat.reduceEqDiff, Nat.reduceBEq, Int.reduceLE, Int.reduceLT, Int.reduceToNat, Int.reduceMul, Int.reduceAdd, Int.reduceSub, Int.reduceNeg, Int.reduceEq, reduceCtorEq, Nat.reduceMod, hb, hc, wb, wc, w2]
    refine ⟨⟨⟨by omega, by omega⟩, okEs_bT _⟩, ?_⟩
    refine call_k (s_bytes_Clone (bs'.take (numL b0 b1 b2 b3)) (by rw [List.length_take]; omega)) ?_ (by simp -implicitDefEqProofs only [go_sem, reduceIte, Nat.reduceAdd, Nat.reduceSub, Nat.reduceMul, Nat.reduceLT, Nat.reduceLeDiff, Nat.reduceEqDiff, Nat.reduceBEq, Int.reduceLE, Int.reduceLT, Int.reduceToNat, Int.reduceMul, Int.reduceAdd, Int.reduceSub, Int.reduceNeg, Int.reduceEq, reduceCtorEq, Nat.reduceMod, ed])
    by_cases g3 : 1000000000 < numL c0 c1 c2 c3
    · have f3 : (((numL c0 c1 c2 c3 : Nat) : Int) > 1000000000) = True := eq_true (by omega)
      simp -implicitDefEqProofs only [go_sem, reduceIte, Nat.reduceAdd, Nat.reduceSub, Nat.reduceMul, Nat.reduceLT, Nat.reduceLeDiff, Nat.reduceEqDiff, Nat.reduceBEq, Int.reduceLE, Int.reduceLT, Int.reduceToNat, Int.reduceMul, Int.reduceAdd, Int.reduceSub, Int.reduceNeg, Int.reduceEq, reduceCtorEq, Nat.reduceMod, hc, wc, f3]
      refine h1 _ (hnone (by omega)) ?_
      simp -implicitDefEqProofs only [go_sem, reduceIte, Nat.reduceAdd, Nat.reduceSub, Nat.reduceMul, Nat.reduceLT, Nat.reduceLeDiff, Nat.reduceEqDiff, Nat.reduceBEq, Int.reduceLE, Int.reduceLT, Int.reduceToNat, Int.reduceMul, Int.reduceAdd, Int.reduceSub, Int.reduceNeg, Int.reduceEq, reduceCtorEq, Nat.reduceMod, scanE]
      exact ⟨_, rfl⟩
    have f3 : (((numL c0 c1 c2 c3 : Nat) : Int) > 1000000000) = False := eq_false (by omega)
    simp -implicitDefEqProofs only [go_sem, reduceIte, Nat.reduceAdd, Nat.reduceSub, Nat.reduceMul, Nat.reduceLT, Nat.reduceLeDiff, Nat.reduceEqDiff, Nat.reduceBEq, Int.reduceLE, Int.reduceLT, Int.reduceToNat, Int.reduceMul, Int.reduceAdd, Int.reduceSub, Int.reduceNeg, Int.reduceEq, reduceCtorEq, Nat.reduceMod, hc, wc, f3]
    refine ⟨⟨⟨by omega, by omega⟩, okEs_bT _⟩, ?_⟩
    refine call_d (s_frame_get d0 d1 d2 d3 bs' (by omega)) ?_ (by simp -implicitDefEqProofs only [go_sem, reduceIte, Nat.reduceAdd, Nat.reduceSub, Nat.reduceMul, Nat.reduceLT, Nat.reduceLeDiff, Nat.reduceEqDiff, Nat.reduceBEq, Int.reduceLE, Int.reduceLT, Int.reduceToNat, Int.reduceMul, Int.reduceAdd, Int.reduceSub, Int.reduceNeg, Int.reduceEq, reduceCtorEq, Nat.reduceMod, e8])
    simp -implicitDefEqProofs only [go_sem, reduceIte, Nat.reduceAdd, Nat.reduceSub, Nat.reduceMul, Nat.reduceLT, Nat.reduceLeDiff, Nat.reduceEqDiff, Nat.reduceBEq, Int.reduceLE, Int.reduceLT, Int.reduceToNat, Int.reduceMul, Int.reduceAdd, Int.reduceSub, Int.reduceNeg, Int.reduceEq, reduceCtorEq, Nat.reduceMod, Int.natCast_zero]
    refine ⟨⟨by omega, .inl trivial⟩, ?_⟩
    refine call_d (s_frame_sum [b0, b1, b2, b3, c0, c1, c2, c3] (bs'.take (numL b0 b1 b2 b3)) (by simp) (by rw [List.length_take]; omega)) ?_ ?_
    · by_cases g4 : getV d0 d1 d2 d3 4 = updV 0#32 (b0 :: b1 :: b2 :: b3 :: c0 :: c1 :: c2 :: c3 :: bs'.take (numL b0 b1 b2 b3))
      · have f4 : (((getV d0 d1 d2 d3 4).toNat : Int) != ((updV 0#32 (b0 :: b1 :: b2 :: b3 :: c0 :: c1 :: c2 :: c3 :: bs'.take (numL b0 b1 b2 b3))).toNat : Int)) = false := by rw [g4]; simp
        have hone : oneL (b0 :: b1 :: b2 :: b3 :: c0 :: c1 :: c2 :: c3 :: d0 :: d1 :: d2 :: d3 :: bs') = some ⟨numL c0 c1 c2 c3, bs'.take (numL b0 b1 b2 b3)⟩ := by
          simp only [oneL]
          rw [if_pos ⟨by omega, by omega, by omega, g4⟩]
        have hnx : nextL (b0 :: b1 :: b2 :: b3 :: c0 :: c1 :: c2 :: c3 :: d0 :: d1 :: d2 :: d3 :: bs') [] = some ⟨numL c0 c1 c2 c3, bs'.take (numL b0 b1 b2 b3)⟩ := by
          unfold nextL
          rw [catR_nil, List.length_nil, List.drop_zero, hone]
          rfl
        have hln := (nextL_len hnx (by simp [catR])).2
        simp only [catR_nil, List.length_nil] at hln
        have hdl : (bs'.take (numL b0 b1 b2 b3)).length = numL b0 b1 b2 b3 := by rw [List.length_take]; omega
        have wl : IntKind.i64.wrap (12 + (((bs'.take (numL b0 b1 b2 b3)).length : Nat) : Int)) = ((12 + (bs'.take (numL b0 b1 b2 b3)).length : Nat) : Int) := by rw [wrap_i64_id (by omega) (by omega)]; omega
        have wa : IntKind.i64.wrap ((0 : Int) + ((12 + (bs'.take (numL b0 b1 b2 b3)).length : Nat) : Int)) = (((catR [(⟨numL c0 c1 c2 c3, bs'.take (numL b0 b1 b2 b3)⟩ : Rec)]).length : Nat) : Int) := by
          have : ([] ++ [(⟨numL c0 c1 c2 c3, bs'.take (numL b0 b1 b2 b3)⟩ : Rec)]) = [(⟨numL c0 c1 c2 c3, bs'.take (numL b0 b1 b2 b3)⟩ : Rec)] := rfl
          rw [this] at hln
          rw [wrap_i64_id (by omega) (by omega)]; omega
        simp -implicitDefEqProofs only [go_sem, reduceIte, Nat.reduceAdd, Nat.reduceSub, Nat.reduceMul, Nat.reduceLT, Nat.reduceLeDiff, Nat.reduceEqDiff, Nat.reduceBEq, Int.reduceLE, Int.reduceLT, Int.reduceToNat, Int.reduceMul, Int.reduceAdd, Int.reduceSub, Int.reduceNeg, Int.reduceEq, reduceCtorEq, Nat.reduceMod, f4, wl, wa, gt_iff_lt, Int.lt_irrefl, Int.natCast_zero]
        refine ⟨⟨by simp [okEs, T.one], by unfold room; omega⟩, h0 _ _ hnx ?_⟩
        simp -implicitDefEqProofs only [go_sem, reduceIte, Nat.reduceAdd, Nat.reduceSub, Nat.reduceMul, Nat.reduceLT, Nat.reduceLeDiff, Nat.reduceEqDiff, Nat.reduceBEq, Int.reduceLE, Int.reduceLT, Int.reduceToNat, Int.reduceMul, Int.reduceAdd, Int.reduceSub, Int.reduceNeg, Int.reduceEq, reduceCtorEq, Nat.reduceMod, scanG, scanV, Rec.cells, recsT]
        exact ⟨_, rfl⟩
      · have f4 : (((getV d0 d1 d2 d3 4).toNat : Int) != ((updV 0#32 (b0 :: b1 :: b2 :: b3 :: c0 :: c1 :: c2 :: c3 :: bs'.take (numL b0 b1 b2 b3))).toNat : Int)) = true := by
          rw [bne_iff_ne]
          intro e
          exact g4 (BitVec.eq_of_toNat_eq (by omega))
        simp -implicitDefEqProofs only [go_sem, reduceIte, Nat.reduceAdd, Nat.reduceSub, Nat.reduceMul, Nat.reduceLT, Nat.reduceLeDiff, Nat.reduceEqDiff, Nat.reduceBEq, Int.reduceLE, Int.reduceLT, Int.reduceToNat, Int.reduceMul, Int.reduceAdd, Int.reduceSub, Int.reduceNeg, Int.reduceEq, reduceCtorEq, Nat.reduceMod, f4]
        refine h1 _ (hnone fun h => g4 h.2.2.2) ?_
        simp -implicitDefEqProofs only [go_sem, reduceIte, Nat.reduceAdd, Nat.reduceSub, Nat.reduceMul, Nat.reduceLT, Nat.reduceLeDiff, Nat.reduceEqDiff, Nat.reduceBEq, Int.reduceLE, Int.reduceLT, Int.reduceToNat, Int.reduceMul, Int.reduceAdd, Int.reduceSub, Int.reduceNeg, Int.reduceEq, reduceCtorEq, Nat.reduceMod, scanE]
        exact ⟨_, rfl⟩
    · simp -implicitDefEqProofs only [go_sem, reduceIte, Nat.reduceAdd, Nat.reduceSub, Nat.reduceMul, Nat.reduceLT, Nat.reduceLeDiff, Nat.reduceEqDiff, Nat.reduceBEq, Int.reduceLE, Int.reduceLT, Int.reduceToNat, Int.reduceMul, Int.reduceAdd, Int.reduceSub, Int.reduceNeg, Int.reduceEq, reduceCtorEq, Nat.reduceMod]
      rfl
end Go.Proofs.Ytadnjellfiafaaa.Pm

/-! PmFk -/
set_option linter.all false
set_option maxRecDepth 100000
namespace Go.Proofs.Ytadnjellfiafaaa.Pm
open Go Go.RowKit

def scanB (C24 : C) : C := (.seq (.seq (.seq (.reg ([⟨some 11, .move (.tmp 0), none⟩, ⟨some 12, .call { callee := .builtin .len, args := #[(.tmp 11)], argTypes := #[22] }, none⟩, ⟨some 13, .binOp .gtr 3 (.tmp 12) (.const (.int .i64 20000)) 3, none⟩])) (.keep [0, 13])) c_frame_Scan_1) (.seq (.seq (.reg ([⟨some 5, .assign (.const (.slice none 0 0)), none⟩])) (.keep [0, 5])) (.seq (.seq (.reg ([⟨some 6, .alloc 51, none⟩])) (.keep [0, 5, 6])) (.seq (.seq (.reg ([⟨some 7, .assign (.const (.int .i64 0)), none⟩])) (.keep [0, 5, 6, 7])) (.seq .label C24)))))
theorem scanB_eq : c_frame_Scan_29 = scanB c_frame_Scan_24 := rfl
theorem s_frame_Scan_many (bs : List (BitVec 8)) (hl : 20000 < bs.length) : Spec Try.prog 24 [.sl (bT bs)] [] (.tup [.t (.sl []) true, .t (.i .i64 0) true, .t (.i .i64 4) true]) := by
  refine spec_k (hold mixed) b_frame_Scan [(.sl [], true), (.i .i64 0, true), (.i .i64 4, true)] ?_
  simp -implicitDefEqProofs only [go_sem, reduceIte, Nat.reduceAdd, Nat.reduceSub, Nat.reduceMul, Nat.reduceLT, Nat.reduceLeDiff, Nat.reduceEqDiff, Nat.reduceBEq, Int.reduceLE, Int.reduceLT, Int.reduceToNat, Int.reduceMul, Int.reduceAdd, Int.reduceSub, Int.reduceNeg, Int.reduceEq, reduceCtorEq, Nat.reduceMod]
  refine scope_2 (fun _ _ => False) (fun _ _ => False) (by decide) ?_ (by simp) (by simp)
  have h1 : ((bs.length : Int) > 20000) = True := eq_true (by omega)
  simp -implicitDefEqProofs only [go_sem, reduceIte, Nat.reduceAdd, Nat.reduceSub, Nat.reduceMul, Nat.reduceLT, Nat.reduceLeDiff, Nat.reduceEqDiff, Nat.reduceBEq, Int.reduceLE, Int.reduceLT, Int.reduceToNat, Int.reduceMul, Int.reduceAdd, Int.reduceSub, Int.reduceNeg, Int.reduceEq, reduceCtorEq, Nat.reduceMod, h1]
theorem s_frame_Scan_ok (bs : List (BitVec 8)) (hl : bs.length ≤ 20000) : Spec Try.prog 24 [.sl (bT bs)] [] (.tup [.t (.sl (recsT (scanL bs))) true, .t (.i .i64 (catR (scanL bs)).length) true, .t (.i .i64 0) true]) := by
  refine spec_k (hold mixed) b_frame_Scan [(.sl (recsT (scanL bs)), true), (.i .i64 (catR (scanL bs)).length, true), (.i .i64 0, true)] ?_
  simp -implicitDefEqProofs only [go_sem, reduceIte, Nat.reduceAdd, Nat.reduceSub, Nat.reduceMul, Nat.reduceLT, Nat.reduceLeDiff, Nat.reduceEqDiff, Nat.reduceBEq, Int.reduceLE, Int.reduceLT, Int.reduceToNat, Int.reduceMul, Int.reduceAdd, Int.reduceSub, Int.reduceNeg, Int.reduceEq, reduceCtorEq, Nat.reduceMod]
  refine scope_2 (fun n s => ∃ M r b1, cut [0, 5, 6, 7] 3 (adopt [(5, 2)] s) = scanG bs (M ++ [r]) M.length (.var (scanV r)) b1 ∧ ScanOK bs (M ++ [r]) ∧ scanF bs n (M ++ [r]) = scanL bs ∧ bs.length < n + (catR (M ++ [r])).length)
    (fun n s => (∃ M ver b0 b1, cut [0, 5, 6, 7] 3 (adopt [(5, 2)] s) = scanG bs M ver b0 b1 ∧ scanL bs = M) ∨ (∃ b0, cut [0, 5, 6, 7] 3 (adopt [(5, 2)] s) = scanE bs b0 ∧ scanL bs = [])) (by decide) ?_ ?_ ?_
  · have h1 : ((bs.length : Int) > 20000) = False := eq_false (by omega)
    rw [scanB_eq]
    generalize hC : c_frame_Scan_24 = C24
    simp -implicitDefEqProofs only [go_sem, reduceIte, Nat.reduceAdd, Nat.reduceSub, Nat.reduceMul, Nat.reduceLT, Nat.reduceLeDiff, Nat.reduceEqDiff, Nat.reduceBEq, Int.reduceLE, Int.reduceLT, Int.reduceToNat, Int.reduceMul, Int.reduceAdd, Int.reduceSub, Int.reduceNeg, Int.reduceEq, reduceCtorEq, Nat.reduceMod, h1, scanB]
    subst hC
    have hF0 : scanL bs = scanF bs (bs.length + 1) [] := rfl
    refine scan_first bs hl _ (fun r s' hr hs => ?_) (fun s' hr hs => ?_)
    · rw [gotoF_g]
      obtain ⟨b1, hs⟩ := hs
      have hln := (nextL_len hr (by simp [catR])).2
      refine ⟨bs.length, .inl ⟨rfl, [], r, b1, hs, scanOK_step (scanOK_nil bs) hr, ?_, ?_⟩⟩
      · rw [hF0, scanF, hr]
      · rw [hln]
        simp [catR]
        omega
    · rw [gotoF_g]
      obtain ⟨b0, hs⟩ := hs
      exact ⟨0, .inr ⟨rfl, .inr ⟨b0, hs, by rw [hF0, scanF, hr]⟩⟩⟩
  · rintro n s ⟨M, r, b1, hs, hok, hF, hn⟩
    refine ⟨3, ?_⟩
    have hle : (catR (M ++ [r])).length ≤ bs.length := by
      obtain ⟨q, hq⟩ := hok.bytes
      have := congrArg List.length hq
      rw [List.length_append] at this
      omega
    obtain ⟨n, rfl⟩ : ∃ k, n = k + 1 := ⟨n - 1, by omega⟩
    rw [hs]
    unfold c_frame_Scan_53
    rw [Wk_seq, Wk_skip, Rk_seq_n, scan_same]
    refine scan_round bs hl (M ++ [r]) hle (by simp) hok.ok M.length _ _ b1 _ (fun r' s' hr hs => ?_) (fun s' hr hs => ?_)
    · rw [gotoN_g]
      obtain ⟨b1, hs⟩ := hs
      have hln := (nextL_len hr hle).2
      refine ⟨n, Nat.lt_succ_self _, .inl ⟨rfl, M ++ [r], r', b1, ?_, scanOK_step hok hr, ?_, ?_⟩⟩
      · rw [hs]; simp
      · rw [← hF, scanF, hr]
      · rw [hln]; omega
    · rw [gotoN_g]
      obtain ⟨b0, b1, hs⟩ := hs
      exact ⟨0, Nat.succ_pos _, .inr ⟨rfl, .inl ⟨_, _, b0, b1, hs, by rw [← hF, scanF, hr]⟩⟩⟩
  · rintro n s (⟨M, ver, b0, b1, hs, hM⟩ | ⟨b0, hs, hM⟩)
    · refine ⟨3, ?_⟩
      rw [hs]
      have e1 : List.take M.length (recsT M) = recsT M := List.take_of_length_le (by rw [recsT_length]; exact Nat.le_refl _)
      simp -implicitDefEqProofs only [go_sem, reduceIte, Nat.reduceAdd, Nat.reduceSub, Nat.reduceMul, Nat.reduceLT, Nat.reduceLeDiff, Nat.reduceEqDiff, Nat.reduceBEq, Int.reduceLE, Int.reduceLT, Int.reduceToNat, Int.reduceMul, Int.reduceAdd, Int.reduceSub, Int.reduceNeg, Int.reduceEq, reduceCtorEq, Nat.reduceMod, scanG, recsT_length, hM, e1]
    · refine ⟨3, ?_⟩
      rw [hs]
      simp -implicitDefEqProofs only [go_sem, reduceIte, Nat.reduceAdd, Nat.reduceSub, Nat.reduceMul, Nat.reduceLT, Nat.reduceLeDiff, Nat.reduceEqDiff, Nat.reduceBEq, Int.reduceLE, Int.reduceLT, Int.reduceToNat, Int.reduceMul, Int.reduceAdd, Int.reduceSub, Int.reduceNeg, Int.reduceEq, reduceCtorEq, Nat.reduceMod, scanE, hM, catR_nil, Int.natCast_zero]
      rfl
end Go.Proofs.Ytadnjellfiafaaa.Pm

/-! PmFl -/
set_option linter.all false
set_option maxRecDepth 100000
namespace Go.Proofs.Ytadnjellfiafaaa.Pm
open Go Go.RowKit

/-- What 'one' returns. -/
def oneV : List (BitVec 8) → Rec × Bool
  | b0 :: b1 :: b2 :: b3 :: c0 :: c1 :: c2 :: c3 :: d0 :: d1 :: d2 :: d3 :: bs =>
    if numL b0 b1 b2 b3 ≤ 1000 ∧ numL b0 b1 b2 b3 ≤ bs.length then
      (⟨numL c0 c1 c2 c3, bs.take (numL b0 b1 b2 b3)⟩, (⟨numL c0 c1 c2 c3, bs.take (numL b0 b1 b2 b3)⟩ : Rec).ok && startsL (b0 :: b1 :: b2 :: b3 :: c0 :: c1 :: c2 :: c3 :: d0 :: d1 :: d2 :: d3 :: bs) (bytesL ⟨numL c0 c1 c2 c3, bs.take (numL b0 b1 b2 b3)⟩))
    else (⟨0, []⟩, false)
  | _ => (⟨0, []⟩, false)
theorem oneV_short {bs : List (BitVec 8)} (h : bs.length < 12) : oneV bs = (⟨0, []⟩, false) := by
  unfold oneV
  split
  · simp at h; omega
  · rfl
theorem oneV_true {bs : List (BitVec 8)} (h : (oneV bs).2 = true) : oneL bs = some (oneV bs).1 := by
  unfold oneV at h ⊢
  split at h
  · split at h
    · rename_i hc
      rw [if_pos hc]
      simp only [Bool.and_eq_true] at h
      exact oneL_iff.2 h
    · cases h
  · cases h
theorem oneV_false {bs : List (BitVec 8)} (h : (oneV bs).2 = false) : oneL bs = none := by
  by_cases h12 : bs.length < 12
  · exact oneL_short h12
  · obtain ⟨b0, b1, b2, b3, c0, c1, c2, c3, d0, d1, d2, d3, bs', rfl⟩ := long_split h12
    cases ho : oneL (b0 :: b1 :: b2 :: b3 :: c0 :: c1 :: c2 :: c3 :: d0 :: d1 :: d2 :: d3 :: bs') with
    | none => rfl
    | some r =>
      exfalso
      have h1 := oneL_iff.1 ho
      simp only [oneL] at ho
      split at ho
      · rename_i hc
        simp only [Option.some.injEq] at ho
        subst ho
        simp only [oneV, if_pos (And.intro hc.1 hc.2.1)] at h
        rw [h1.1, h1.2] at h
        cases h
      · cases ho
theorem s_ref03_one (bs : List (BitVec 8)) (hl : bs.length ≤ 1000000) : Spec Try.prog 61 [.sl (bT bs)] [] (.tup [.t (.agg (oneV bs).1.cells) true, .t (.b (oneV bs).2) true]) := by
  refine spec_k (hold mixed) b_ref03_one [(.agg (oneV bs).1.cells, true), (.b (oneV bs).2, true)] ?_
  by_cases h12 : bs.length < 12
  · have e12 : ((bs.length : Int) < 12) = True := eq_true (by omega)
    simp -implicitDefEqProofs only [go_sem, reduceIte, Nat.reduceAdd, Nat.reduceSub, Nat.reduceMul, Nat.reduceLT, Nat.reduceLeDiff, Nat.reduceEqDiff, Nat.reduceBEq, Int.reduceLE, Int.reduceLT, Int.reduceToNat, Int.reduceMul, Int.reduceAdd, Int.reduceSub, Int.reduceNeg, Int.reduceEq, reduceCtorEq, Nat.reduceMod, e12, oneV_short h12, Rec.cells]
    rfl
  · obtain ⟨b0, b1, b2, b3, c0, c1, c2, c3, d0, d1, d2, d3, bs', rfl⟩ := long_split h12
    have hbl : bs'.length + 12 ≤ 1000000 := by simp only [List.length_cons] at hl; omega
    have e12 : (((bs'.length + 1 + 1 + 1 + 1 + 1 + 1 + 1 + 1 + 1 + 1 + 1 + 1 : Nat) : Int) < 12) = False := eq_false (by omega)
    simp -implicitDefEqProofs only [go_sem, reduceIte, Nat.reduceAdd, Nat.reduceSub, Nat.reduceMul, Nat.reduceLT, Nat.reduceLeDiff, Nat.reduceEqDiff, Nat.reduceBEq, Int.reduceLE, Int.reduceLT, Int.reduceToNat, Int.reduceMul, Int.reduceAdd, Int.reduceSub, Int.reduceNeg, Int.reduceEq, reduceCtorEq, Nat.reduceMod, e12]
    refine call_k (s_ref03_number b0 b1 b2 b3 (c0 :: c1 :: c2 :: c3 :: d0 :: d1 :: d2 :: d3 :: bs') (by simp only [List.length_cons]; omega)) ?_
    have wb : IntKind.i64.wrap (12 + ((numL b0 b1 b2 b3 : Nat) : Int)) = ((12 + numL b0 b1 b2 b3 : Nat) : Int) := by
      have := (getV b0 b1 b2 b3 4).isLt
      have hb := getV_num b0 b1 b2 b3
      rw [wrap_i64_id (by omega) (by omega)]; omega
    by_cases g1 : 1000 < numL b0 b1 b2 b3
    · have f1 : (((numL b0 b1 b2 b3 : Nat) : Int) > 1000) = True := eq_true (by omega)
      have hv : oneV (b0 :: b1 :: b2 :: b3 :: c0 :: c1 :: c2 :: c3 :: d0 :: d1 :: d2 :: d3 :: bs') = (⟨0, []⟩, false) := by
        simp only [oneV]; rw [if_neg (by omega)]
      simp -implicitDefEqProofs only [go_sem, reduceIte, Nat.reduceAdd, Nat.reduceSub, Nat.reduceMul, Nat.reduceLT, Nat.reduceLeDiff, Nat.reduceEqDiff, Nat.reduceBEq, Int.reduceLE, Int.reduceLT, Int.reduceToNat, Int.reduceMul, Int.reduceAdd, Int.reduceSub, Int.reduceNeg, Int.reduceEq, reduceCtorEq, Nat.reduceMod, f1, hv, Rec.cells]
      rfl
    have f1 : (((numL b0 b1 b2 b3 : Nat) : Int) > 1000) = False := eq_false (by omega)
    by_cases g2 : bs'.length < numL b0 b1 b2 b3
    · have f2 : (((bs'.length + 1 + 1 + 1 + 1 + 1 + 1 + 1 + 1 + 1 + 1 + 1 + 1 : Nat) : Int) < ((12 + numL b0 b1 b2 b3 : Nat) : Int)) = True := eq_true (by omega)
      have hv : oneV (b0 :: b1 :: b2 :: b3 :: c0 :: c1 :: c2 :: c3 :: d0 :: d1 :: d2 :: d3 :: bs') = (⟨0, []⟩, false) := by
        simp only [oneV]; rw [if_neg (by omega)]
      simp -implicitDefEqProofs only [go_sem, reduceIte, Nat.reduceAdd, Nat.reduceSub, Nat.reduceMul, Nat.reduceLT, Nat.reduceLeDiff, Nat.reduceEqDiff, Nat.reduceBEq, Int.reduceLE, Int.reduceLT, Int.reduceToNat, Int.reduceMul, Int.reduceAdd, Int.reduceSub, Int.reduceNeg, Int.reduceEq, reduceCtorEq, Nat.reduceMod, f1, wb, f2, hv, Rec.cells]
      rfl
    have f2 : (((bs'.length + 1 + 1 + 1 + 1 + 1 + 1 + 1 + 1 + 1 + 1 + 1 + 1 : Nat) : Int) < ((12 + numL b0 b1 b2 b3 : Nat) : Int)) = False := eq_false (by omega)
    have e4 : List.take (((bs'.length + 1 + 1 + 1 + 1 + 1 + 1 + 1 + 1 + 1 + 1 + 1 + 1 : Nat) : Int) - 4).toNat (List.drop 4 (bT (b0 :: b1 :: b2 :: b3 :: c0 :: c1 :: c2 :: c3 :: d0 :: d1 :: d2 :: d3 :: bs'))) = bT (c0 :: c1 :: c2 :: c3 :: d0 :: d1 :: d2 :: d3 :: bs') :=
      bT_rest (b0 :: b1 :: b2 :: b3 :: c0 :: c1 :: c2 :: c3 :: d0 :: d1 :: d2 :: d3 :: bs') 4 (by simp)
    have ed : List.take (((12 + numL b0 b1 b2 b3 : Nat) : Int) - 12).toNat (List.drop 12 (bT (b0 :: b1 :: b2 :: b3 :: c0 :: c1 :: c2 :: c3 :: d0 :: d1 :: d2 :: d3 :: bs'))) = bT (bs'.take (numL b0 b1 b2 b3)) := by
      rw [show (((12 + numL b0 b1 b2 b3 : Nat) : Int) - 12).toNat = numL b0 b1 b2 b3 by omega, bT_dropN, bT_takeN]
      rfl
    simp -implicitDefEqProofs only [go_sem, reduceIte, Nat.reduceAdd, Nat.reduceSub, Nat.reduceMul, Nat.reduceLT, Nat.reduceLeDiff, Nat.reduceEqDiff, Nat.reduceBEq, Int.reduceLE, Int.reduceLT, Int.reduceToNat, Int.reduceMul, Int.reduceAdd, Int.reduceSub, Int.reduceNeg, Int.reduceEq, reduceCtorEq, Nat.reduceMod, f1, wb, f2]
    refine ⟨⟨⟨by omega, by omega⟩, okEs_bT _⟩, ?_⟩
    refine call_d (s_ref03_number c0 c1 c2 c3 (d0 :: d1 :: d2 :: d3 :: bs') (by simp only [List.length_cons]; omega)) ?_ (by simp -implicitDefEqProofs only [go_sem, reduceIte, Nat.reduceAdd, Nat.reduceSub, Nat.reduceMul, Nat.reduceLT, Nat.reduceLeDiff, Nat.reduceEqDiff, Nat.reduceBEq, Int.reduceLE, Int.reduceLT, Int.reduceToNat, Int.reduceMul, Int.reduceAdd, Int.reduceSub, Int.reduceNeg, Int.reduceEq, reduceCtorEq, Nat.reduceMod, e4])
    simp -implicitDefEqProofs only [go_sem, reduceIte, Nat.reduceAdd, Nat.reduceSub, Nat.reduceMul, Nat.reduceLT, Nat.reduceLeDiff, Nat.reduceEqDiff, Nat.reduceBEq, Int.reduceLE, Int.reduceLT, Int.reduceToNat, Int.reduceMul, Int.reduceAdd, Int.reduceSub, Int.reduceNeg, Int.reduceEq, reduceCtorEq, Nat.reduceMod, wb, ed]
    have htl : (bs'.take (numL b0 b1 b2 b3)).length = numL b0 b1 b2 b3 := by rw [List.length_take]; omega
    refine ⟨⟨⟨by omega, by omega⟩, okEs_bT _⟩, ⟨okEs_bT _, by unfold room; omega⟩, ?_⟩
    refine call_d (s_ref03_Valid ⟨numL c0 c1 c2 c3, bs'.take (numL b0 b1 b2 b3)⟩) ?_ (by simp -implicitDefEqProofs only [go_sem, reduceIte, Nat.reduceAdd, Nat.reduceSub, Nat.reduceMul, Nat.reduceLT, Nat.reduceLeDiff, Nat.reduceEqDiff, Nat.reduceBEq, Int.reduceLE, Int.reduceLT, Int.reduceToNat, Int.reduceMul, Int.reduceAdd, Int.reduceSub, Int.reduceNeg, Int.reduceEq, reduceCtorEq, Nat.reduceMod, Rec.cells, bT_take_self])
    have hv : oneV (b0 :: b1 :: b2 :: b3 :: c0 :: c1 :: c2 :: c3 :: d0 :: d1 :: d2 :: d3 :: bs') = (⟨numL c0 c1 c2 c3, bs'.take (numL b0 b1 b2 b3)⟩, (⟨numL c0 c1 c2 c3, bs'.take (numL b0 b1 b2 b3)⟩ : Rec).ok && startsL (b0 :: b1 :: b2 :: b3 :: c0 :: c1 :: c2 :: c3 :: d0 :: d1 :: d2 :: d3 :: bs') (bytesL ⟨numL c0 c1 c2 c3, bs'.take (numL b0 b1 b2 b3)⟩)) := by
      simp only [oneV]; rw [if_pos ⟨by omega, by omega⟩]
    cases hok : (⟨numL c0 c1 c2 c3, bs'.take (numL b0 b1 b2 b3)⟩ : Rec).ok with
    | false =>
      rw [hok] at hv
      simp -implicitDefEqProofs only [go_sem, reduceIte, Nat.reduceAdd, Nat.reduceSub, Nat.reduceMul, Nat.reduceLT, Nat.reduceLeDiff, Nat.reduceEqDiff, Nat.reduceBEq, Int.reduceLE, Int.reduceLT, Int.reduceToNat, Int.reduceMul, Int.reduceAdd, Int.reduceSub, Int.reduceNeg, Int.reduceEq, reduceCtorEq, Nat.reduceMod, hok, hv, Rec.cells, bT_take_self]
    | true =>
      rw [hok] at hv
      obtain ⟨g0, g1', g2'⟩ := (Rec.ok_iff _).1 hok
      simp -implicitDefEqProofs only [go_sem, reduceIte, Nat.reduceAdd, Nat.reduceSub, Nat.reduceMul, Nat.reduceLT, Nat.reduceLeDiff, Nat.reduceEqDiff, Nat.reduceBEq, Int.reduceLE, Int.reduceLT, Int.reduceToNat, Int.reduceMul, Int.reduceAdd, Int.reduceSub, Int.reduceNeg, Int.reduceEq, reduceCtorEq, Nat.reduceMod, hok]
      refine call_d (s_ref03_Bytes ⟨numL c0 c1 c2 c3, bs'.take (numL b0 b1 b2 b3)⟩ g0 g1' g2') ?_ (by simp -implicitDefEqProofs only [go_sem, reduceIte, Nat.reduceAdd, Nat.reduceSub, Nat.reduceMul, Nat.reduceLT, Nat.reduceLeDiff, Nat.reduceEqDiff, Nat.reduceBEq, Int.reduceLE, Int.reduceLT, Int.reduceToNat, Int.reduceMul, Int.reduceAdd, Int.reduceSub, Int.reduceNeg, Int.reduceEq, reduceCtorEq, Nat.reduceMod, Rec.cells, bT_take_self])
      simp -implicitDefEqProofs only [go_sem, reduceIte, Nat.reduceAdd, Nat.reduceSub, Nat.reduceMul, Nat.reduceLT, Nat.reduceLeDiff, Nat.reduceEqDiff, Nat.reduceBEq, Int.reduceLE, Int.reduceLT, Int.reduceToNat, Int.reduceMul, Int.reduceAdd, Int.reduceSub, Int.reduceNeg, Int.reduceEq, reduceCtorEq, Nat.reduceMod]
      refine call_d (s_ref01_Starts (b0 :: b1 :: b2 :: b3 :: c0 :: c1 :: c2 :: c3 :: d0 :: d1 :: d2 :: d3 :: bs') (bytesL ⟨numL c0 c1 c2 c3, bs'.take (numL b0 b1 b2 b3)⟩) hl (by rw [bytesL_length]; simp only; omega)) ?_ (by simp -implicitDefEqProofs only [go_sem, reduceIte, Nat.reduceAdd, Nat.reduceSub, Nat.reduceMul, Nat.reduceLT, Nat.reduceLeDiff, Nat.reduceEqDiff, Nat.reduceBEq, Int.reduceLE, Int.reduceLT, Int.reduceToNat, Int.reduceMul, Int.reduceAdd, Int.reduceSub, Int.reduceNeg, Int.reduceEq, reduceCtorEq, Nat.reduceMod, bT_take_self])
      simp -implicitDefEqProofs only [go_sem, reduceIte, Nat.reduceAdd, Nat.reduceSub, Nat.reduceMul, Nat.reduceLT, Nat.reduceLeDiff, Nat.reduceEqDiff, Nat.reduceBEq, Int.reduceLE, Int.reduceLT, Int.reduceToNat, Int.reduceMul, Int.reduceAdd, Int.reduceSub, Int.reduceNeg, Int.reduceEq, reduceCtorEq, Nat.reduceMod, hv, Rec.cells, bT_take_self]
/-- The loop of the reference's scan. -/
def foundS (bs : List (BitVec 8)) (m : List Rec) : S := ⟨tmL [(0, .t (.sl (bT bs)) false), (4, .row 0 m.length 0 m.length), (5, .t (.i .i64 (catR m).length) true)], [.row m.length 2 (recsT m) true]⟩
theorem s_ref03_Found (bs : List (BitVec 8)) (hl : bs.length ≤ 1000000) : Spec Try.prog 51 [.sl (bT bs)] [] (.tup [.t (.sl (recsT (scanL bs))) true, .t (.i .i64 (catR (scanL bs)).length) true]) := by
  refine spec_k (hold mixed) b_ref03_Found [(.sl (recsT (scanL bs)), true), (.i .i64 (catR (scanL bs)).length, true)] ?_
  simp -implicitDefEqProofs only [go_sem, reduceIte, Nat.reduceAdd, Nat.reduceSub, Nat.reduceMul, Nat.reduceLT, Nat.reduceLeDiff, Nat.reduceEqDiff, Nat.reduceBEq, Int.reduceLE, Int.reduceLT, Int.reduceToNat, Int.reduceMul, Int.reduceAdd, Int.reduceSub, Int.reduceNeg, Int.reduceEq, reduceCtorEq, Nat.reduceMod]
  refine loop_l (α := Nat × List Rec) (fun p => foundS bs p.2) (fun p => p.1) (fun p => ScanOK bs p.2 ∧ scanF bs p.1 p.2 = scanL bs ∧ bs.length < p.1 + (catR p.2).length) (bs.length + 1, []) (by simp -implicitDefEqProofs only [go_sem, reduceIte, Nat.reduceAdd, Nat.reduceSub, Nat.reduceMul, Nat.reduceLT, Nat.reduceLeDiff, Nat.reduceEqDiff, Nat.reduceBEq, Int.reduceLE, Int.reduceLT, Int.reduceToNat, Int.reduceMul, Int.reduceAdd, Int.reduceSub, Int.reduceNeg, Int.reduceEq, reduceCtorEq, Nat.reduceMod]; rfl) ⟨scanOK_nil bs, rfl, by simp [catR]⟩ ?_
  rintro ⟨n, M⟩ ⟨hok, hF, hn⟩ R hR
  simp only at hok hF hn hR
  have hle : (catR M).length ≤ bs.length := by
    obtain ⟨q, hq⟩ := hok.bytes
    have := congrArg List.length hq
    rw [List.length_append] at this
    omega
  obtain ⟨n, rfl⟩ : ∃ k, n = k + 1 := ⟨n - 1, by omega⟩
  have hlei : (((catR M).length : Nat) : Int) ≤ ((bs.length : Nat) : Int) := by omega
  have hcm := catR_many M
  have wM : IntKind.i64.wrap ((M.length : Int) - 1) = (((M.length : Int) - 1)) := wrap_i64_id (by omega) (by omega)
  have eM : List.take M.length (recsT M) = recsT M := List.take_of_length_le (by rw [recsT_length]; exact Nat.le_refl _)
  simp -implicitDefEqProofs only [go_sem, reduceIte, Nat.reduceAdd, Nat.reduceSub, Nat.reduceMul, Nat.reduceLT, Nat.reduceLeDiff, Nat.reduceEqDiff, Nat.reduceBEq, Int.reduceLE, Int.reduceLT, Int.reduceToNat, Int.reduceMul, Int.reduceAdd, Int.reduceSub, Int.reduceNeg, Int.reduceEq, reduceCtorEq, Nat.reduceMod, foundS, hlei, bT_rest bs _ hle, Int.le_refl]
  refine ⟨.inr (okEs_bT bs), ?_⟩
  refine call_k (s_ref03_one (bs.drop (catR M).length) (by rw [List.length_drop]; omega)) ?_
  cases hv : (oneV (bs.drop (catR M).length)).2 with
  | false =>
    have hnx : nextL bs M = none := by unfold nextL; rw [oneV_false hv]
    have hM : scanL bs = M := by rw [← hF, scanF, hnx]
    simp -implicitDefEqProofs only [go_sem, reduceIte, Nat.reduceAdd, Nat.reduceSub, Nat.reduceMul, Nat.reduceLT, Nat.reduceLeDiff, Nat.reduceEqDiff, Nat.reduceBEq, Int.reduceLE, Int.reduceLT, Int.reduceToNat, Int.reduceMul, Int.reduceAdd, Int.reduceSub, Int.reduceNeg, Int.reduceEq, reduceCtorEq, Nat.reduceMod, hv, Rec.cells, hM, recsT_length, eM]
  | true =>
    have ho := oneV_true hv
    generalize (oneV (bs.drop (catR M).length)).1 = r at ho
    obtain ⟨hrok, q, hq⟩ := oneL_some ho
    obtain ⟨r0, r1, r2⟩ := r.ok_iff.1 hrok
    have wl : IntKind.i64.wrap (12 + (r.data.length : Int)) = ((12 + r.data.length : Nat) : Int) := by rw [wrap_i64_id (by omega) (by omega)]; omega
    have hdone : ∀ (hnx : nextL bs M = some r), IntKind.i64.wrap (((catR M).length : Int) + ((12 + r.data.length : Nat) : Int)) = (((catR (M ++ [r])).length : Nat) : Int) := fun hnx => by
      have := (nextL_len hnx hle).2
      rw [wrap_i64_id (by omega) (by omega)]; omega
    have e1 : recsT M ++ [[T.i .i64 r.num, T.sl (bT r.data)]] = recsT (M ++ [r]) := by simp [recsT, Rec.cells]
    have e2 : (M ++ [r]).length = M.length + 1 := by simp
    have goon : ∀ (hnx : nextL bs M = some r), ScanOK bs (M ++ [r]) ∧ scanF bs n (M ++ [r]) = scanL bs ∧ bs.length < n + (catR (M ++ [r])).length := fun hnx => by
      have := (nextL_len hnx hle).2
      exact ⟨scanOK_step hok hnx, by rw [← hF, scanF, hnx], by omega⟩
    by_cases h0 : M = []
    · subst h0
      have hnx : nextL bs [] = some r := by unfold nextL; rw [ho]; rfl
      simp -implicitDefEqProofs only [go_sem, reduceIte, Nat.reduceAdd, Nat.reduceSub, Nat.reduceMul, Nat.reduceLT, Nat.reduceLeDiff, Nat.reduceEqDiff, Nat.reduceBEq, Int.reduceLE, Int.reduceLT, Int.reduceToNat, Int.reduceMul, Int.reduceAdd, Int.reduceSub, Int.reduceNeg, Int.reduceEq, reduceCtorEq, Nat.reduceMod, hv, Rec.cells, List.length_nil, Int.natCast_zero, gt_iff_lt, Int.lt_irrefl, wl]
      refine ⟨⟨by simp [okEs, T.one], by unfold room; omega⟩, hR (n, [r]) _ ?_ (goon hnx) (Nat.lt_succ_self _)⟩
      simp -implicitDefEqProofs only [go_sem, reduceIte, Nat.reduceAdd, Nat.reduceSub, Nat.reduceMul, Nat.reduceLT, Nat.reduceLeDiff, Nat.reduceEqDiff, Nat.reduceBEq, Int.reduceLE, Int.reduceLT, Int.reduceToNat, Int.reduceMul, Int.reduceAdd, Int.reduceSub, Int.reduceNeg, Int.reduceEq, reduceCtorEq, Nat.reduceMod, foundS, hdone hnx]
      rfl
    · obtain ⟨p, hp⟩ : ∃ p, M.getLast? = some p := by
        cases hx : M.getLast? with
        | none => exact (h0 (List.getLast?_eq_none_iff.1 hx)).elim
        | some p => exact ⟨p, rfl⟩
      have hpos : 0 < M.length := List.length_pos_iff.2 h0
      have hgt : ((M.length : Int) > 0) = True := eq_true (by omega)
      have hw1 : IntKind.i64.wrap ((M.length : Int) - 1) = ((M.length - 1 : Nat) : Int) := by
        rw [wrap_i64_id (by omega) (by omega)]; omega
      have hpm : p ∈ M := List.mem_of_getLast? hp
      obtain ⟨k0, k1, k2⟩ := p.ok_iff.1 (hok.ok p hpm)
      have wp : IntKind.i64.wrap (p.num + 1) = p.num + 1 := wrap_i64_id (by omega) (by omega)
      have hlt1 : (((M.length - 1 : Nat) : Int) < (M.length : Int)) = True := eq_true (by omega)
      have hget : (recsT M)[M.length - 1]? = some p.cells := by
        rw [List.getLast?_eq_getElem?] at hp
        simp [recsT, hp]
      by_cases g5 : r.num = p.num + 1
      · have f5 : (r.num != p.num + 1) = false := by rw [g5]; simp
        have hnx : nextL bs M = some r := by unfold nextL; rw [ho]; simp only [hp]; rw [if_pos g5]
        simp -implicitDefEqProofs only [go_sem, reduceIte, Nat.reduceAdd, Nat.reduceSub, Nat.reduceMul, Nat.reduceLT, Nat.reduceLeDiff, Nat.reduceEqDiff, Nat.reduceBEq, Int.reduceLE, Int.reduceLT, Int.reduceToNat, Int.reduceMul, Int.reduceAdd, Int.reduceSub, Int.reduceNeg, Int.reduceEq, reduceCtorEq, Nat.reduceMod, hv, Rec.cells, hgt, hw1, hlt1, hget, wp, f5, recsT_length, wl]
        refine ⟨⟨by simp [okEs, T.one], by unfold room; omega⟩, hR (n, M ++ [r]) _ ?_ (goon hnx) (Nat.lt_succ_self _)⟩
        simp -implicitDefEqProofs only [go_sem, reduceIte, Nat.reduceAdd, Nat.reduceSub, Nat.reduceMul, Nat.reduceLT, Nat.reduceLeDiff, Nat.reduceEqDiff, Nat.reduceBEq, Int.reduceLE, Int.reduceLT, Int.reduceToNat, Int.reduceMul, Int.reduceAdd, Int.reduceSub, Int.reduceNeg, Int.reduceEq, reduceCtorEq, Nat.reduceMod, foundS, hdone hnx, eM, e1, e2]
      · have f5 : (r.num != p.num + 1) = true := by rw [bne_iff_ne]; exact g5
        have hnx : nextL bs M = none := by unfold nextL; rw [ho]; simp only [hp]; rw [if_neg g5]
        have hM : scanL bs = M := by rw [← hF, scanF, hnx]
        simp -implicitDefEqProofs only [go_sem, reduceIte, Nat.reduceAdd, Nat.reduceSub, Nat.reduceMul, Nat.reduceLT, Nat.reduceLeDiff, Nat.reduceEqDiff, Nat.reduceBEq, Int.reduceLE, Int.reduceLT, Int.reduceToNat, Int.reduceMul, Int.reduceAdd, Int.reduceSub, Int.reduceNeg, Int.reduceEq, reduceCtorEq, Nat.reduceMod, hv, Rec.cells, hgt, hw1, hlt1, hget, wp, f5, recsT_length, hM, eM]
end Go.Proofs.Ytadnjellfiafaaa.Pm

/-! PmFm -/
set_option linter.all false
set_option maxRecDepth 100000
namespace Go.Proofs.Ytadnjellfiafaaa.Pm
open Go Go.RowKit

theorem s_ref03_Scan_many (bs : List (BitVec 8)) (hl : 20000 < bs.length) : Spec Try.prog 25 [.sl (bT bs)] [] (.tup [.t (.sl []) true, .t (.i .i64 0) true, .t (.i .i64 4) true]) := by
  refine spec_k (hold mixed) b_ref03_Scan [(.sl [], true), (.i .i64 0, true), (.i .i64 4, true)] ?_
  have h1 : ((bs.length : Int) > 20000) = True := eq_true (by omega)
  simp -implicitDefEqProofs only [go_sem, reduceIte, Nat.reduceAdd, Nat.reduceSub, Nat.reduceMul, Nat.reduceLT, Nat.reduceLeDiff, Nat.reduceEqDiff, Nat.reduceBEq, Int.reduceLE, Int.reduceLT, Int.reduceToNat, Int.reduceMul, Int.reduceAdd, Int.reduceSub, Int.reduceNeg, Int.reduceEq, reduceCtorEq, Nat.reduceMod, h1]
theorem s_ref03_Scan_ok (bs : List (BitVec 8)) (hl : bs.length ≤ 20000) : Spec Try.prog 25 [.sl (bT bs)] [] (.tup [.t (.sl (recsT (scanL bs))) true, .t (.i .i64 (catR (scanL bs)).length) true, .t (.i .i64 0) true]) := by
  refine spec_k (hold mixed) b_ref03_Scan [(.sl (recsT (scanL bs)), true), (.i .i64 (catR (scanL bs)).length, true), (.i .i64 0, true)] ?_
  have h1 : ((bs.length : Int) > 20000) = False := eq_false (by omega)
  simp -implicitDefEqProofs only [go_sem, reduceIte, Nat.reduceAdd, Nat.reduceSub, Nat.reduceMul, Nat.reduceLT, Nat.reduceLeDiff, Nat.reduceEqDiff, Nat.reduceBEq, Int.reduceLE, Int.reduceLT, Int.reduceToNat, Int.reduceMul, Int.reduceAdd, Int.reduceSub, Int.reduceNeg, Int.reduceEq, reduceCtorEq, Nat.reduceMod, h1]
  refine call_k (s_ref03_Found bs (by omega)) ?_
  simp -implicitDefEqProofs only [go_sem, reduceIte, Nat.reduceAdd, Nat.reduceSub, Nat.reduceMul, Nat.reduceLT, Nat.reduceLeDiff, Nat.reduceEqDiff, Nat.reduceBEq, Int.reduceLE, Int.reduceLT, Int.reduceToNat, Int.reduceMul, Int.reduceAdd, Int.reduceSub, Int.reduceNeg, Int.reduceEq, reduceCtorEq, Nat.reduceMod]
/-- Records that are valid, with numbers one behind the other. -/
def follows : List Rec → Bool
  | [] => true
  | [r] => r.ok
  | r :: s :: l => r.ok && (decide (s.num = r.num + 1) && follows (s :: l))
def followsAt (l : List Rec) (k : Nat) : Bool := match l[k]? with
  | some r => r.ok && (match k with
    | 0 => true
    | j + 1 => match l[j]? with
      | some p => decide (r.num = p.num + 1)
      | none => true)
  | none => true
theorem follows_iff (l : List Rec) : follows l = true ↔ ∀ k, k < l.length → followsAt l k = true := by
  match l with
  | [] => simp [follows]
  | [r] =>
    simp only [follows]
    refine ⟨fun h k hk => ?_, fun h => ?_⟩
    · simp at hk; subst hk; simp [followsAt, h]
    · have := h 0 (by simp); simpa [followsAt] using this
  | r :: s :: l =>
    have ih := follows_iff (s :: l)
    simp only [follows, Bool.and_eq_true, decide_eq_true_eq, ih]
    refine ⟨fun ⟨h1, h2, h3⟩ k hk => ?_, fun h => ⟨?_, ?_, fun k hk => ?_⟩⟩
    · match k with
      | 0 => simp [followsAt, h1]
      | 1 =>
        have := h3 0 (by simp)
        simp only [followsAt] at this ⊢
        simp at this ⊢
        exact ⟨this, h2⟩
      | k + 2 =>
        have := h3 (k + 1) (by simpa using hk)
        simpa [followsAt] using this
    · have := h 0 (by simp); simpa [followsAt] using this
    · have := h 1 (by simp); simp [followsAt] at this; exact this.2
    · have := h (k + 1) (by simpa using hk)
      match k with
      | 0 => simp [followsAt] at this ⊢; exact this.1
      | k + 1 => simpa [followsAt] using this
theorem s_ref03_Following (l : List Rec) (hn : l.length ≤ 1000000) : Spec Try.prog 37 [.sl (recsT l)] [] (.t (.b (follows l)) true) := by
  refine spec_k (hold mixed) b_ref03_Following [(.b (follows l), true)] ?_
  simp -implicitDefEqProofs only [go_sem, reduceIte, Nat.reduceAdd, Nat.reduceSub, Nat.reduceMul, Nat.reduceLT, Nat.reduceLeDiff, Nat.reduceEqDiff, Nat.reduceBEq, Int.reduceLE, Int.reduceLT, Int.reduceToNat, Int.reduceMul, Int.reduceAdd, Int.reduceSub, Int.reduceNeg, Int.reduceEq, reduceCtorEq, Nat.reduceMod]
  refine loop_l (α := Nat) (fun k => ⟨tmL [(0, .t (.sl (recsT l)) false), (3, .t (.i .i64 k) true)], []⟩) (fun k => l.length - k) (fun k => k ≤ l.length ∧ ∀ j, j < k → followsAt l j = true) 0 (by simp -implicitDefEqProofs only [go_sem, reduceIte, Nat.reduceAdd, Nat.reduceSub, Nat.reduceMul, Nat.reduceLT, Nat.reduceLeDiff, Nat.reduceEqDiff, Nat.reduceBEq, Int.reduceLE, Int.reduceLT, Int.reduceToNat, Int.reduceMul, Int.reduceAdd, Int.reduceSub, Int.reduceNeg, Int.reduceEq, reduceCtorEq, Nat.reduceMod]; rfl) ⟨by omega, by omega⟩ ?_
  rintro k ⟨hk, he⟩ R hR
  simp -implicitDefEqProofs only [go_sem, reduceIte, Nat.reduceAdd, Nat.reduceSub, Nat.reduceMul, Nat.reduceLT, Nat.reduceLeDiff, Nat.reduceEqDiff, Nat.reduceBEq, Int.reduceLE, Int.reduceLT, Int.reduceToNat, Int.reduceMul, Int.reduceAdd, Int.reduceSub, Int.reduceNeg, Int.reduceEq, reduceCtorEq, Nat.reduceMod, recsT_length]
  refine wcond_mk (fun h => ?_) (fun h => ?_)
  · have hk' : k < l.length := by have := of_decide_eq_true h; omega
    have hlt : (((k : Nat) : Int) < ((l.length : Nat) : Int)) = True := eq_true (by omega)
    have hno : followsAt l k = false → follows l = false := fun hf => by
      cases hx : follows l with
      | false => rfl
      | true => rw [(follows_iff l).1 hx k hk'] at hf; cases hf
    have hnext : followsAt l k = true → (k + 1 ≤ l.length ∧ ∀ j, j < k + 1 → followsAt l j = true) := fun ht => ⟨by omega, fun j hj => by
      by_cases e : j = k
      · subst e; exact ht
      · exact he j (by omega)⟩
    simp -implicitDefEqProofs only [go_sem, reduceIte, Nat.reduceAdd, Nat.reduceSub, Nat.reduceMul, Nat.reduceLT, Nat.reduceLeDiff, Nat.reduceEqDiff, Nat.reduceBEq, Int.reduceLE, Int.reduceLT, Int.reduceToNat, Int.reduceMul, Int.reduceAdd, Int.reduceSub, Int.reduceNeg, Int.reduceEq, reduceCtorEq, Nat.reduceMod, recsT_get hk', recsT_length, Rec.cells]
    refine call_d (s_ref03_Valid l[k]) ?_ (by simp -implicitDefEqProofs only [go_sem, reduceIte, Nat.reduceAdd, Nat.reduceSub, Nat.reduceMul, Nat.reduceLT, Nat.reduceLeDiff, Nat.reduceEqDiff, Nat.reduceBEq, Int.reduceLE, Int.reduceLT, Int.reduceToNat, Int.reduceMul, Int.reduceAdd, Int.reduceSub, Int.reduceNeg, Int.reduceEq, reduceCtorEq, Nat.reduceMod, Rec.cells])
    cases hok : l[k].ok with
    | false =>
      simp -implicitDefEqProofs only [go_sem, reduceIte, Nat.reduceAdd, Nat.reduceSub, Nat.reduceMul, Nat.reduceLT, Nat.reduceLeDiff, Nat.reduceEqDiff, Nat.reduceBEq, Int.reduceLE, Int.reduceLT, Int.reduceToNat, Int.reduceMul, Int.reduceAdd, Int.reduceSub, Int.reduceNeg, Int.reduceEq, reduceCtorEq, Nat.reduceMod, hok, hno (by simp [followsAt, hk', hok])]
    | true =>
      cases k with
      | zero =>
        have ht : followsAt l 0 = true := by simp [followsAt, hk', hok]
        simp -implicitDefEqProofs only [go_sem, reduceIte, Nat.reduceAdd, Nat.reduceSub, Nat.reduceMul, Nat.reduceLT, Nat.reduceLeDiff, Nat.reduceEqDiff, Nat.reduceBEq, Int.reduceLE, Int.reduceLT, Int.reduceToNat, Int.reduceMul, Int.reduceAdd, Int.reduceSub, Int.reduceNeg, Int.reduceEq, reduceCtorEq, Nat.reduceMod, hok, Int.natCast_zero, gt_iff_lt, Int.lt_irrefl]
        refine hR 1 _ ?_ (hnext ht) (by omega)
        simp -implicitDefEqProofs only [go_sem, reduceIte, Nat.reduceAdd, Nat.reduceSub, Nat.reduceMul, Nat.reduceLT, Nat.reduceLeDiff, Nat.reduceEqDiff, Nat.reduceBEq, Int.reduceLE, Int.reduceLT, Int.reduceToNat, Int.reduceMul, Int.reduceAdd, Int.reduceSub, Int.reduceNeg, Int.reduceEq, reduceCtorEq, Nat.reduceMod, wrap_i64_id (show -9223372036854775808 ≤ (0 : Int) + 1 by omega) (by omega)]
        rfl
      | succ j =>
        have hj : j < l.length := by omega
        have hg0 : (((j + 1 : Nat) : Int) > 0) = True := eq_true (by omega)
        have hw1 : IntKind.i64.wrap (((j + 1 : Nat) : Int) - 1) = (j : Int) := by rw [wrap_i64_id (by omega) (by omega)]; omega
        have hltj : ((j : Int) < (l.length : Int)) = True := eq_true (by omega)
        have hokj : l[j].ok = true := by
          have := he j (by omega)
          simp only [followsAt, List.getElem?_eq_getElem hj, Bool.and_eq_true] at this
          exact this.1
        obtain ⟨k0, k1, k2⟩ := l[j].ok_iff.1 hokj
        have wp : IntKind.i64.wrap (l[j].num + 1) = l[j].num + 1 := wrap_i64_id (by omega) (by omega)
        by_cases g5 : l[j + 1].num = l[j].num + 1
        · have f5 : (l[j + 1].num != l[j].num + 1) = false := by rw [g5]; simp
          have ht : followsAt l (j + 1) = true := by
            simp only [followsAt, List.getElem?_eq_getElem hk', List.getElem?_eq_getElem hj, hok, g5, decide_true, Bool.and_self]
          simp -implicitDefEqProofs only [go_sem, reduceIte, Nat.reduceAdd, Nat.reduceSub, Nat.reduceMul, Nat.reduceLT, Nat.reduceLeDiff, Nat.reduceEqDiff, Nat.reduceBEq, Int.reduceLE, Int.reduceLT, Int.reduceToNat, Int.reduceMul, Int.reduceAdd, Int.reduceSub, Int.reduceNeg, Int.reduceEq, reduceCtorEq, Nat.reduceMod, hok, hg0, hw1, hlt, hltj, recsT_get hj, recsT_get hk', recsT_length, Rec.cells, wp, f5]
          refine hR (j + 1 + 1) _ ?_ (hnext ht) (by omega)
          have wj : IntKind.i64.wrap (((j + 1 : Nat) : Int) + 1) = ((j + 1 + 1 : Nat) : Int) := by rw [wrap_i64_id (by omega) (by omega)]; omega
          simp -implicitDefEqProofs only [go_sem, reduceIte, Nat.reduceAdd, Nat.reduceSub, Nat.reduceMul, Nat.reduceLT, Nat.reduceLeDiff, Nat.reduceEqDiff, Nat.reduceBEq, Int.reduceLE, Int.reduceLT, Int.reduceToNat, Int.reduceMul, Int.reduceAdd, Int.reduceSub, Int.reduceNeg, Int.reduceEq, reduceCtorEq, Nat.reduceMod, wj]
        · have f5 : (l[j + 1].num != l[j].num + 1) = true := by rw [bne_iff_ne]; exact g5
          have ht : followsAt l (j + 1) = false := by
            simp only [followsAt, List.getElem?_eq_getElem hk', List.getElem?_eq_getElem hj, decide_eq_false g5, Bool.and_false]
          simp -implicitDefEqProofs only [go_sem, reduceIte, Nat.reduceAdd, Nat.reduceSub, Nat.reduceMul, Nat.reduceLT, Nat.reduceLeDiff, Nat.reduceEqDiff, Nat.reduceBEq, Int.reduceLE, Int.reduceLT, Int.reduceToNat, Int.reduceMul, Int.reduceAdd, Int.reduceSub, Int.reduceNeg, Int.reduceEq, reduceCtorEq, Nat.reduceMod, hok, hg0, hw1, hlt, hltj, recsT_get hj, recsT_get hk', recsT_length, Rec.cells, wp, f5, hno ht]
  · have hk' : ¬ k < l.length := by have := of_decide_eq_false h; omega
    obtain rfl : k = l.length := by omega
    have ht : follows l = true := (follows_iff l).2 he
    simp -implicitDefEqProofs only [go_sem, reduceIte, Nat.reduceAdd, Nat.reduceSub, Nat.reduceMul, Nat.reduceLT, Nat.reduceLeDiff, Nat.reduceEqDiff, Nat.reduceBEq, Int.reduceLE, Int.reduceLT, Int.reduceToNat, Int.reduceMul, Int.reduceAdd, Int.reduceSub, Int.reduceNeg, Int.reduceEq, reduceCtorEq, Nat.reduceMod, ht]
theorem bT_setN (bs : List (BitVec 8)) (k : Nat) (v : BitVec 8) : (bT bs).set k [T.i .u8 v.toNat] = bT (bs.set k v) := by
  simp [bT, List.map_set]
theorem setT_one (t : T) (new : List T) (h : new.length = 1) : setT [t] 0 new = new := by
  simp [setT, h]
/-- What a scan returns. -/
def scanR (bs : List (BitVec 8)) : List Rec := if bs.length ≤ 20000 then scanL bs else []
def scanN (bs : List (BitVec 8)) : Int := if bs.length ≤ 20000 then (catR (scanL bs)).length else 0
def scanE' (bs : List (BitVec 8)) : Int := if bs.length ≤ 20000 then 0 else 4
theorem s_frame_Scan (bs : List (BitVec 8)) : Spec Try.prog 24 [.sl (bT bs)] [] (.tup [.t (.sl (recsT (scanR bs))) true, .t (.i .i64 (scanN bs)) true, .t (.i .i64 (scanE' bs)) true]) := by
  unfold scanR scanN scanE'
  by_cases h : bs.length ≤ 20000
  · simp only [if_pos h]; exact s_frame_Scan_ok bs h
  · simp only [if_neg h]; exact s_frame_Scan_many bs (by omega)
theorem s_ref03_Scan (bs : List (BitVec 8)) : Spec Try.prog 25 [.sl (bT bs)] [] (.tup [.t (.sl (recsT (scanR bs))) true, .t (.i .i64 (scanN bs)) true, .t (.i .i64 (scanE' bs)) true]) := by
  unfold scanR scanN scanE'
  by_cases h : bs.length ≤ 20000
  · simp only [if_pos h]; exact s_ref03_Scan_ok bs h
  · simp only [if_neg h]; exact s_ref03_Scan_many bs (by omega)
theorem catR_mem {l : List Rec} {r : Rec} (h : r ∈ l) : r.data.length ≤ (catR l).length := by
  induction l with
  | nil => cases h
  | cons x l ih =>
    have e : catR (x :: l) = bytesL x ++ catR l := by unfold catR; rw [List.map_cons, List.flatten_cons]
    rw [e, List.length_append, bytesL_length]
    rcases List.mem_cons.1 h with rfl | h
    · omega
    · have := ih h; omega
theorem scanL_len (bs : List (BitVec 8)) : (catR (scanL bs)).length ≤ bs.length := by
  obtain ⟨q, hq⟩ := (scanL_ok bs).bytes
  have := congrArg List.length hq
  rw [List.length_append] at this
  omega
theorem scanR_len (bs : List (BitVec 8)) : (scanR bs).length ≤ 20000 := by
  unfold scanR
  split
  · have := catR_many (scanL bs)
    have := scanL_len bs
    omega
  · simp
theorem scanR_data (bs : List (BitVec 8)) : ∀ r ∈ scanR bs, r.data.length ≤ 20000 := by
  unfold scanR
  split
  · intro r hr
    have := catR_mem hr
    have := scanL_len bs
    omega
  · simp
end Go.Proofs.Ytadnjellfiafaaa.Pm

/-! PmCh -/
set_option linter.all false
namespace Go.Proofs.Ytadnjellfiafaaa.Pm
open Go Go.RowKit

theorem fits_rec {d : Nat} {xs : List T} (hf : Fits Try.prog (d + 3) 51 xs) : ∃ r : Rec, xs = r.cells ∧ r.data.length ≤ room ∧ -9223372036854775808 ≤ r.num ∧ r.num ≤ 9223372036854775807 := by
  obtain ⟨ps, rfl, h⟩ := fits_struct ti51 hf
  obtain ⟨p0, ps, rfl, h0, h⟩ := all2_cons h
  obtain ⟨p1, ps, rfl, h1, h⟩ := all2_cons h
  obtain rfl := all2_nil h
  obtain ⟨n, rfl, l, u⟩ := fits_i64' ti3 h0
  obtain ⟨bs, rfl, hb⟩ := fits_bs ti22 ti5 h1
  exact ⟨⟨n, bs⟩, rfl, hb, l, u⟩
theorem arg_rec {d : Nat} {x : T} (h : ArgFits Try.prog (d + 3) 51 x) : ∃ r : Rec, x = .agg r.cells ∧ r.data.length ≤ room ∧ -9223372036854775808 ≤ r.num ∧ r.num ≤ 9223372036854775807 := by
  obtain ⟨xs, rfl, hf⟩ := arg_struct ti51 h
  obtain ⟨r, rfl, h1⟩ := fits_rec hf
  exact ⟨r, rfl, h1⟩
theorem arg_recs {d : Nat} {x : T} (h : ArgFits Try.prog (d + 4) 40 x) : ∃ l : List Rec, x = .sl (recsT l) ∧ l.length ≤ 140737488355328 := by
  obtain ⟨es, e1, e2, e3⟩ := fits_sl ti40 (arg_sl ti40 h)
  simp only [List.cons.injEq, and_true] at e1
  subst e1
  obtain ⟨l, rfl⟩ := list_form (f := Rec.cells) fun y hy => by
    obtain ⟨r, h1, _⟩ := fits_rec (e3 y hy)
    exact ⟨r, h1⟩
  exact ⟨l, rfl, by simpa [room] using e2⟩
theorem arg_bs {d : Nat} {x : T} (h : ArgFits Try.prog (d + 2) 22 x) : ∃ bs, x = .sl (bT bs) ∧ bs.length ≤ 140737488355328 := by
  obtain ⟨bs, e, hb⟩ := fits_bs ti22 ti5 (arg_sl ti22 h)
  simp only [List.cons.injEq, and_true] at e
  exact ⟨bs, e, by simpa [room] using hb⟩
theorem arg_i64 {d : Nat} {x : T} (h : ArgFits Try.prog (d + 1) 3 x) : ∃ n : Int, x = .i .i64 n ∧ -9223372036854775808 ≤ n ∧ n ≤ 9223372036854775807 := by
  obtain ⟨n, e, hb⟩ := fits_i64' ti3 (arg_int ti3 h)
  simp only [List.cons.injEq, and_true] at e
  exact ⟨n, e, hb⟩
theorem arg_u8 {d : Nat} {x : T} (h : ArgFits Try.prog (d + 1) 5 x) : ∃ b : BitVec 8, x = .i .u8 b.toNat := by
  obtain ⟨n, e⟩ := fits_u8' ti5 (arg_int ti5 h)
  simp only [List.cons.injEq, and_true] at e
  exact ⟨n, e⟩
end Go.Proofs.Ytadnjellfiafaaa.Pm

/-! PmKd -/
set_option linter.all false
set_option maxRecDepth 100000
namespace Go.Proofs.Ytadnjellfiafaaa.Pm
open Go Go.RowKit


def c_law03_FrameScans : C := (.seq (.seq (.reg ([⟨some 2, .assign (.const (.bool false)), none⟩])) (.keep [0])) (.seq (.seq (.seq (.reg ([⟨some 11, .move (.tmp 0), none⟩, ⟨some 12, .call { callee := .value (.func 23), args := #[(.tmp 11)], argTypes := #[22] }, none⟩])) (.keep [0, 12])) (.cond (.tmp 12) (.seq (.seq (.reg ([⟨some 2, .assign (.const (.bool true)), none⟩])) (.keep [2])) .ret) .skip)) (.seq (.seq (.reg ([⟨some 13, .buildSlice 22 0 #[], none⟩, ⟨some 14, .move (.tmp 0), none⟩, ⟨some 15, .call { callee := .builtin .append, args := #[(.tmp 13), (.tmp 14)], argTypes := #[22, 22] }, none⟩, ⟨some 3, .assign (.tmp 15), none⟩])) (.keep [0, 3])) (.seq (.seq (.reg ([⟨some 17, .move (.tmp 3), none⟩, ⟨some 18, .call { callee := .value (.func 24), args := #[(.tmp 17)], argTypes := #[22] }, none⟩, ⟨some 16, .move (.tmp 18), none⟩, ⟨some 19, .extract (.tmp 16) 0, none⟩, ⟨some 20, .extract (.tmp 16) 1, none⟩, ⟨some 21, .extract (.tmp 16) 2, none⟩, ⟨some 4, .assign (.tmp 19), none⟩, ⟨some 5, .assign (.tmp 20), none⟩, ⟨some 6, .assign (.tmp 21), none⟩])) (.keep [0, 3, 4, 5, 6])) (.seq (.seq (.reg ([⟨some 23, .move (.tmp 0), none⟩, ⟨some 24, .call { callee := .value (.func 25), args := #[(.tmp 23)], argTypes := #[22] }, none⟩, ⟨some 22, .move (.tmp 24), none⟩, ⟨some 25, .extract (.tmp 22) 0, none⟩, ⟨some 26, .extract (.tmp 22) 1, none⟩, ⟨some 27, .extract (.tmp 22) 2, none⟩, ⟨some 7, .assign (.tmp 25), none⟩, ⟨some 8, .assign (.tmp 26), none⟩, ⟨some 9, .assign (.tmp 27), none⟩])) (.keep [3, 4, 5, 6, 7, 8, 9])) (.seq (.seq (.seq (.reg ([⟨some 10, .assign (.const (.int .i64 0)), none⟩])) (.keep [3, 4, 5, 6, 7, 8, 9, 10])) (.block 0 (.loop [] [3, 4, 5, 6, 7, 8, 9, 10] (.seq (.seq (.seq (.reg ([⟨some 28, .move (.tmp 10), none⟩, ⟨some 29, .move (.tmp 3), none⟩, ⟨some 30, .call { callee := .builtin .len, args := #[(.tmp 29)], argTypes := #[22] }, none⟩, ⟨some 31, .binOp .lss 3 (.tmp 28) (.tmp 30) 3, none⟩])) (.keep [3, 4, 5, 6, 7, 8, 9, 10, 31])) (.cond (.tmp 31) .skip (.exit 0))) (.seq (.block 1 (.seq (.reg ([⟨some 34, .move (.tmp 3), none⟩, ⟨some 35, .move (.tmp 10), none⟩, ⟨some 36, .indexAddr 22 (.tmp 34) (.tmp 35), none⟩, ⟨some 37, .load 5 (.tmp 36), none⟩, ⟨some 38, .binOp .xor 5 (.tmp 37) (.const (.int .u8 255)) 5, none⟩, ⟨some 39, .indexAddr 22 (.tmp 34) (.tmp 35), none⟩, ⟨none, .store 5 (.tmp 39) (.tmp 38), none⟩])) (.keep [3, 4, 5, 6, 7, 8, 9, 10]))) (.seq (.reg ([⟨some 32, .move (.tmp 10), none⟩, ⟨some 33, .binOp .add 3 (.tmp 32) (.const (.int .i64 1)) 3, none⟩, ⟨some 10, .assign (.tmp 33), none⟩])) (.keep [3, 4, 5, 6, 7, 8, 9, 10]))))))) (.seq (.seq (.reg ([⟨some 40, .move (.tmp 4), none⟩, ⟨some 41, .move (.tmp 7), none⟩, ⟨some 42, .call { callee := .value (.func 26), args := #[(.tmp 40), (.tmp 41)], argTypes := #[40, 40] }, none⟩, ⟨some 43, .move (.tmp 42), none⟩, ⟨some 44, .move (.tmp 5), some (43, true)⟩, ⟨some 45, .move (.tmp 8), some (43, true)⟩, ⟨some 46, .binOp .eql 3 (.tmp 44) (.tmp 45) 3, some (43, true)⟩, ⟨some 47, .pick (.tmp 43) (.tmp 46) (.const (.bool false)), none⟩, ⟨some 48, .move (.tmp 47), none⟩, ⟨some 49, .move (.tmp 6), some (48, true)⟩, ⟨some 50, .move (.tmp 9), some (48, true)⟩, ⟨some 51, .binOp .eql 3 (.tmp 49) (.tmp 50) 3, some (48, true)⟩, ⟨some 52, .pick (.tmp 48) (.tmp 51) (.const (.bool false)), none⟩, ⟨some 2, .assign (.tmp 52), none⟩])) (.keep [2])) .ret)))))))
attribute [go_sem ↓] c_law03_FrameScans
def h_law03_FrameScans : List Hint := [⟨[], [0], []⟩, ⟨[], [0, 12], []⟩, ⟨[], [2], []⟩, ⟨[], [0, 3], []⟩, ⟨[], [0, 3, 4, 5, 6], []⟩, ⟨[], [3, 4, 5, 6, 7, 8, 9], []⟩, ⟨[], [3, 4, 5, 6, 7, 8, 9, 10], []⟩, ⟨[], [3, 4, 5, 6, 7, 8, 9, 10], []⟩, ⟨[], [3, 4, 5, 6, 7, 8, 9, 10, 31], []⟩, ⟨[], [3, 4, 5, 6, 7, 8, 9, 10], []⟩, ⟨[], [3, 4, 5, 6, 7, 8, 9, 10], []⟩, ⟨[], [2], []⟩]
theorem b_law03_FrameScans : Body Try.prog 6 [] h_law03_FrameScans c_law03_FrameScans 53 [.tmp 2] := body_of Try.func6 (by kernel_rfl) (by kernel_rfl) (by kernel_rfl) (by kernel_rfl)
def r_law03_FrameBytes_0 : List I := [⟨some 21, .move (.tmp 20), none⟩, ⟨some 22, .fieldAddr 51 (.tmp 2) 1, some (21, false)⟩, ⟨some 23, .load 22 (.tmp 22), some (21, false)⟩, ⟨some 24, .call { callee := .builtin .len, args := #[(.tmp 23)], argTypes := #[22] }, some (21, false)⟩, ⟨some 25, .binOp .gtr 3 (.tmp 24) (.const (.int .i64 1100)) 3, some (21, false)⟩, ⟨some 26, .pick (.tmp 21) (.const (.bool true)) (.tmp 25), none⟩]
@[go_sem ↓] def ur_law03_FrameBytes_0 := @unI _ _ r_law03_FrameBytes_0.eq_1
def c_law03_FrameBytes_1 : C := (.seq (.seq (.reg ([⟨some 4, .assign (.const (.bool true)), none⟩])) (.keep [4])) .ret)
@[go_sem ↓] def uc_law03_FrameBytes_1 := @unC _ _ c_law03_FrameBytes_1.eq_1
def c_law03_FrameBytes_2 : C := (.cond (.tmp 26) c_law03_FrameBytes_1 .skip)
@[go_sem ↓] def uc_law03_FrameBytes_2 := @unC _ _ c_law03_FrameBytes_2.eq_1
def r_law03_FrameBytes_3 : List I := [⟨some 31, .move (.tmp 33), none⟩, ⟨some 34, .extract (.tmp 31) 0, none⟩, ⟨some 35, .extract (.tmp 31) 1, none⟩, ⟨some 6, .assign (.tmp 34), none⟩, ⟨some 7, .assign (.tmp 35), none⟩]
@[go_sem ↓] def ur_law03_FrameBytes_3 := @unI _ _ r_law03_FrameBytes_3.eq_1
def r_law03_FrameBytes_4 : List I := [⟨some 36, .move (.tmp 38), none⟩, ⟨some 39, .extract (.tmp 36) 0, none⟩, ⟨some 40, .extract (.tmp 36) 1, none⟩, ⟨some 8, .assign (.tmp 39), none⟩, ⟨some 9, .assign (.tmp 40), none⟩]
@[go_sem ↓] def ur_law03_FrameBytes_4 := @unI _ _ r_law03_FrameBytes_4.eq_1
def r_law03_FrameBytes_5 : List I := [⟨some 41, .move (.tmp 43), none⟩, ⟨some 44, .extract (.tmp 41) 0, none⟩, ⟨some 45, .extract (.tmp 41) 1, none⟩, ⟨some 10, .assign (.tmp 44), none⟩, ⟨some 11, .assign (.tmp 45), none⟩]
@[go_sem ↓] def ur_law03_FrameBytes_5 := @unI _ _ r_law03_FrameBytes_5.eq_1
def r_law03_FrameBytes_6 : List I := [⟨some 46, .move (.tmp 48), none⟩, ⟨some 49, .extract (.tmp 46) 0, none⟩, ⟨some 50, .extract (.tmp 46) 1, none⟩, ⟨some 12, .assign (.tmp 49), none⟩, ⟨some 13, .assign (.tmp 50), none⟩]
@[go_sem ↓] def ur_law03_FrameBytes_6 := @unI _ _ r_law03_FrameBytes_6.eq_1
def r_law03_FrameBytes_7 : List I := [⟨some 51, .move (.tmp 53), none⟩, ⟨some 54, .extract (.tmp 51) 0, none⟩, ⟨some 55, .extract (.tmp 51) 1, none⟩, ⟨some 14, .assign (.tmp 54), none⟩, ⟨some 15, .assign (.tmp 55), none⟩]
@[go_sem ↓] def ur_law03_FrameBytes_7 := @unI _ _ r_law03_FrameBytes_7.eq_1
def r_law03_FrameBytes_8 : List I := [⟨some 56, .move (.tmp 58), none⟩, ⟨some 59, .extract (.tmp 56) 0, none⟩, ⟨some 60, .extract (.tmp 56) 1, none⟩, ⟨some 16, .assign (.tmp 59), none⟩, ⟨some 17, .assign (.tmp 60), none⟩]
@[go_sem ↓] def ur_law03_FrameBytes_8 := @unI _ _ r_law03_FrameBytes_8.eq_1
def c_law03_FrameBytes_9 : C := (.cond (.tmp 64) .skip (.exit 0))
@[go_sem ↓] def uc_law03_FrameBytes_9 := @unC _ _ c_law03_FrameBytes_9.eq_1
def c_law03_FrameBytes_10 : C := (.seq (.seq (.reg ([⟨some 4, .assign (.const (.bool false)), none⟩])) (.keep [4])) .ret)
@[go_sem ↓] def uc_law03_FrameBytes_10 := @unC _ _ c_law03_FrameBytes_10.eq_1
def c_law03_FrameBytes_11 : C := (.cond (.tmp 81) c_law03_FrameBytes_10 .skip)
@[go_sem ↓] def uc_law03_FrameBytes_11 := @unC _ _ c_law03_FrameBytes_11.eq_1
def c_law03_FrameBytes_12 : C := (.seq (.reg ([⟨some 82, .move (.tmp 10), none⟩, ⟨some 83, .move (.tmp 18), none⟩, ⟨some 84, .indexAddr 22 (.tmp 82) (.tmp 83), none⟩, ⟨none, .store 5 (.tmp 84) (.const (.int .u8 0)), none⟩])) (.keep [2, 5, 6, 7, 8, 9, 10, 11, 12, 13, 14, 15, 16, 17, 18]))
@[go_sem ↓] def uc_law03_FrameBytes_12 := @unC _ _ c_law03_FrameBytes_12.eq_1
def c_law03_FrameBytes_13 : C := (.seq (.reg ([⟨some 65, .move (.tmp 18), none⟩, ⟨some 66, .binOp .add 3 (.tmp 65) (.const (.int .i64 1)) 3, none⟩, ⟨some 18, .assign (.tmp 66), none⟩])) (.keep [2, 5, 6, 7, 8, 9, 10, 11, 12, 13, 14, 15, 16, 17, 18]))
@[go_sem ↓] def uc_law03_FrameBytes_13 := @unC _ _ c_law03_FrameBytes_13.eq_1
def c_law03_FrameBytes_14 : C := (.seq (.block 1 (.seq (.seq (.seq (.draw ([⟨⟨some 67, .move (.tmp 18), none⟩, []⟩, ⟨⟨some 68, .move (.tmp 12), none⟩, [0]⟩, ⟨⟨some 69, .call { callee := .builtin .len, args := #[(.tmp 68)], argTypes := #[22] }, none⟩, [0]⟩, ⟨⟨some 70, .binOp .lss 3 (.tmp 67) (.tmp 69) 3, none⟩, []⟩, ⟨⟨some 71, .move (.tmp 70), none⟩, []⟩, ⟨⟨some 72, .move (.tmp 10), some (71, true)⟩, []⟩, ⟨⟨some 73, .move (.tmp 18), some (71, true)⟩, [5]⟩, ⟨⟨some 74, .indexAddr 22 (.tmp 72) (.tmp 73), some (71, true)⟩, []⟩, ⟨⟨some 75, .load 5 (.tmp 74), some (71, true)⟩, []⟩, ⟨⟨some 76, .move (.tmp 12), some (71, true)⟩, [5, 6, 7, 8]⟩, ⟨⟨some 77, .move (.tmp 18), some (71, true)⟩, [5, 6, 7, 8, 9]⟩, ⟨⟨some 78, .indexAddr 22 (.tmp 76) (.tmp 77), some (71, true)⟩, [5, 6, 7, 8]⟩, ⟨⟨some 79, .load 5 (.tmp 78), some (71, true)⟩, [5, 6, 7, 8]⟩, ⟨⟨some 80, .binOp .neq 5 (.tmp 75) (.tmp 79) 5, some (71, true)⟩, []⟩, ⟨⟨some 81, .pick (.tmp 71) (.tmp 80) (.const (.bool false)), none⟩, []⟩])) (.keep [2, 5, 6, 7, 8, 9, 10, 11, 12, 13, 14, 15, 16, 17, 18, 81])) c_law03_FrameBytes_11) c_law03_FrameBytes_12)) c_law03_FrameBytes_13)
@[go_sem ↓] def uc_law03_FrameBytes_14 := @unC _ _ c_law03_FrameBytes_14.eq_1
def c_law03_FrameBytes_15 : C := (.seq (.seq (.seq (.reg ([⟨some 61, .move (.tmp 18), none⟩, ⟨some 62, .move (.tmp 10), none⟩, ⟨some 63, .call { callee := .builtin .len, args := #[(.tmp 62)], argTypes := #[22] }, none⟩, ⟨some 64, .binOp .lss 3 (.tmp 61) (.tmp 63) 3, none⟩])) (.keep [2, 5, 6, 7, 8, 9, 10, 11, 12, 13, 14, 15, 16, 17, 18, 64])) c_law03_FrameBytes_9) c_law03_FrameBytes_14)
@[go_sem ↓] def uc_law03_FrameBytes_15 := @unC _ _ c_law03_FrameBytes_15.eq_1
def c_law03_FrameBytes_16 : C := (.block 0 (.loop [] [2, 5, 6, 7, 8, 9, 10, 11, 12, 13, 14, 15, 16, 17, 18] c_law03_FrameBytes_15))
@[go_sem ↓] def uc_law03_FrameBytes_16 := @unC _ _ c_law03_FrameBytes_16.eq_1
def r_law03_FrameBytes_17 : List I := [⟨some 120, .pick (.tmp 115) (.tmp 119) (.const (.bool false)), none⟩, ⟨some 4, .assign (.tmp 120), none⟩]
@[go_sem ↓] def ur_law03_FrameBytes_17 := @unI _ _ r_law03_FrameBytes_17.eq_1
def r_law03_FrameBytes_18 : List I := ⟨some 109, .pick (.tmp 105) (.tmp 108) (.const (.bool false)), none⟩ :: ⟨some 110, .move (.tmp 109), none⟩ :: ⟨some 111, .move (.tmp 15), some (110, true)⟩ :: ⟨some 112, .move (.tmp 17), some (110, true)⟩ :: ⟨some 113, .binOp .eql 3 (.tmp 111) (.tmp 112) 3, some (110, true)⟩ :: ⟨some 114, .pick (.tmp 110) (.tmp 113) (.const (.bool false)), none⟩ :: ⟨some 115, .move (.tmp 114), none⟩ :: ⟨some 116, .fieldAddr 51 (.tmp 2) 1, some (115, true)⟩ :: ⟨some 117, .load 22 (.tmp 116), some (115, true)⟩ :: ⟨some 118, .move (.tmp 5), some (115, true)⟩ :: ⟨some 119, .call { callee := .value (.func 36), args := #[(.tmp 117), (.tmp 118)], argTypes := #[22, 22] }, some (115, true)⟩ :: r_law03_FrameBytes_17
@[go_sem ↓] def ur_law03_FrameBytes_18 := @unI _ _ r_law03_FrameBytes_18.eq_1
def c_law03_FrameBytes_19 : C := (.seq (.seq (.reg (⟨some 85, .move (.tmp 6), none⟩ :: ⟨some 86, .move (.tmp 8), none⟩ :: ⟨some 87, .binOp .eql 3 (.tmp 85) (.tmp 86) 3, none⟩ :: ⟨some 88, .move (.tmp 87), none⟩ :: ⟨some 89, .move (.tmp 7), some (88, true)⟩ :: ⟨some 90, .move (.tmp 9), some (88, true)⟩ :: ⟨some 91, .binOp .eql 3 (.tmp 89) (.tmp 90) 3, some (88, true)⟩ :: ⟨some 92, .pick (.tmp 88) (.tmp 91) (.const (.bool false)), none⟩ :: ⟨some 93, .move (.tmp 92), none⟩ :: ⟨some 94, .move (.tmp 10), some (93, true)⟩ :: ⟨some 95, .call { callee := .builtin .len, args := #[(.tmp 94)], argTypes := #[22] }, some (93, true)⟩ :: ⟨some 96, .move (.tmp 12), some (93, true)⟩ :: ⟨some 97, .call { callee := .builtin .len, args := #[(.tmp 96)], argTypes := #[22] }, some (93, true)⟩ :: ⟨some 98, .binOp .eql 3 (.tmp 95) (.tmp 97) 3, some (93, true)⟩ :: ⟨some 99, .pick (.tmp 93) (.tmp 98) (.const (.bool false)), none⟩ :: ⟨some 100, .move (.tmp 99), none⟩ :: ⟨some 101, .move (.tmp 11), some (100, true)⟩ :: ⟨some 102, .move (.tmp 13), some (100, true)⟩ :: ⟨some 103, .binOp .eql 3 (.tmp 101) (.tmp 102) 3, some (100, true)⟩ :: ⟨some 104, .pick (.tmp 100) (.tmp 103) (.const (.bool false)), none⟩ :: ⟨some 105, .move (.tmp 104), none⟩ :: ⟨some 106, .move (.tmp 14), some (105, true)⟩ :: ⟨some 107, .move (.tmp 16), some (105, true)⟩ :: ⟨some 108, .call { callee := .value (.func 36), args := #[(.tmp 106), (.tmp 107)], argTypes := #[22, 22] }, some (105, true)⟩ :: r_law03_FrameBytes_18)) (.keep [4])) .ret)
@[go_sem ↓] def uc_law03_FrameBytes_19 := @unC _ _ c_law03_FrameBytes_19.eq_1
def c_law03_FrameBytes_20 : C := (.seq (.seq (.seq (.reg ([⟨some 18, .assign (.const (.int .i64 0)), none⟩])) (.keep [2, 5, 6, 7, 8, 9, 10, 11, 12, 13, 14, 15, 16, 17, 18])) c_law03_FrameBytes_16) c_law03_FrameBytes_19)
@[go_sem ↓] def uc_law03_FrameBytes_20 := @unC _ _ c_law03_FrameBytes_20.eq_1
def c_law03_FrameBytes_21 : C := (.seq (.seq (.reg (⟨some 57, .move (.tmp 1), none⟩ :: ⟨some 58, .call { callee := .value (.func 35), args := #[(.tmp 57)], argTypes := #[40] }, none⟩ :: r_law03_FrameBytes_8)) (.keep [2, 5, 6, 7, 8, 9, 10, 11, 12, 13, 14, 15, 16, 17])) c_law03_FrameBytes_20)
@[go_sem ↓] def uc_law03_FrameBytes_21 := @unC _ _ c_law03_FrameBytes_21.eq_1
def c_law03_FrameBytes_22 : C := (.seq (.seq (.reg (⟨some 52, .move (.tmp 1), none⟩ :: ⟨some 53, .call { callee := .value (.func 34), args := #[(.tmp 52)], argTypes := #[40] }, none⟩ :: r_law03_FrameBytes_7)) (.keep [1, 2, 5, 6, 7, 8, 9, 10, 11, 12, 13, 14, 15])) c_law03_FrameBytes_21)
@[go_sem ↓] def uc_law03_FrameBytes_22 := @unC _ _ c_law03_FrameBytes_22.eq_1
def c_law03_FrameBytes_23 : C := (.seq (.seq (.reg (⟨some 47, .load 51 (.tmp 2), none⟩ :: ⟨some 48, .call { callee := .value (.func 33), args := #[(.tmp 47)], argTypes := #[51] }, none⟩ :: r_law03_FrameBytes_6)) (.keep [1, 2, 5, 6, 7, 8, 9, 10, 11, 12, 13])) c_law03_FrameBytes_22)
@[go_sem ↓] def uc_law03_FrameBytes_23 := @unC _ _ c_law03_FrameBytes_23.eq_1
def c_law03_FrameBytes_24 : C := (.seq (.seq (.reg (⟨some 42, .load 51 (.tmp 2), none⟩ :: ⟨some 43, .call { callee := .value (.func 32), args := #[(.tmp 42)], argTypes := #[51] }, none⟩ :: r_law03_FrameBytes_5)) (.keep [1, 2, 5, 6, 7, 8, 9, 10, 11])) c_law03_FrameBytes_23)
@[go_sem ↓] def uc_law03_FrameBytes_24 := @unC _ _ c_law03_FrameBytes_24.eq_1
def c_law03_FrameBytes_25 : C := (.seq (.seq (.reg (⟨some 37, .load 51 (.tmp 2), none⟩ :: ⟨some 38, .call { callee := .value (.func 31), args := #[(.tmp 37)], argTypes := #[51] }, none⟩ :: r_law03_FrameBytes_4)) (.keep [1, 2, 5, 6, 7, 8, 9])) c_law03_FrameBytes_24)
@[go_sem ↓] def uc_law03_FrameBytes_25 := @unC _ _ c_law03_FrameBytes_25.eq_1
def c_law03_FrameBytes_26 : C := (.seq (.seq (.reg (⟨some 32, .load 51 (.tmp 2), none⟩ :: ⟨some 33, .call { callee := .value (.func 30), args := #[(.tmp 32)], argTypes := #[51] }, none⟩ :: r_law03_FrameBytes_3)) (.keep [1, 2, 5, 6, 7])) c_law03_FrameBytes_25)
@[go_sem ↓] def uc_law03_FrameBytes_26 := @unC _ _ c_law03_FrameBytes_26.eq_1
def c_law03_FrameBytes_27 : C := (.seq (.seq (.reg ([⟨some 27, .buildSlice 22 0 #[], none⟩, ⟨some 28, .fieldAddr 51 (.tmp 2) 1, none⟩, ⟨some 29, .load 22 (.tmp 28), none⟩, ⟨some 30, .call { callee := .builtin .append, args := #[(.tmp 27), (.tmp 29)], argTypes := #[22, 22] }, none⟩, ⟨some 5, .assign (.tmp 30), none⟩])) (.keep [1, 2, 5])) c_law03_FrameBytes_26)
@[go_sem ↓] def uc_law03_FrameBytes_27 := @unC _ _ c_law03_FrameBytes_27.eq_1
def c_law03_FrameBytes_28 : C := (.seq (.seq (.seq (.reg (⟨some 19, .move (.tmp 1), none⟩ :: ⟨some 20, .call { callee := .value (.func 29), args := #[(.tmp 19)], argTypes := #[40] }, none⟩ :: r_law03_FrameBytes_0)) (.keep [1, 2, 26])) c_law03_FrameBytes_2) c_law03_FrameBytes_27)
@[go_sem ↓] def uc_law03_FrameBytes_28 := @unC _ _ c_law03_FrameBytes_28.eq_1
def c_law03_FrameBytes : C := (.seq (.seq (.reg ([⟨some 2, .box 51 (.tmp 0), none⟩, ⟨some 4, .assign (.const (.bool false)), none⟩])) (.keep [1, 2])) c_law03_FrameBytes_28)
attribute [go_sem ↓] c_law03_FrameBytes
def h_law03_FrameBytes : List Hint := [⟨[], [1, 2], []⟩, ⟨[], [1, 2, 26], []⟩, ⟨[], [4], []⟩, ⟨[], [1, 2, 5], []⟩, ⟨[], [1, 2, 5, 6, 7], []⟩, ⟨[], [1, 2, 5, 6, 7, 8, 9], []⟩, ⟨[], [1, 2, 5, 6, 7, 8, 9, 10, 11], []⟩, ⟨[], [1, 2, 5, 6, 7, 8, 9, 10, 11, 12, 13], []⟩, ⟨[], [1, 2, 5, 6, 7, 8, 9, 10, 11, 12, 13, 14, 15], []⟩, ⟨[], [2, 5, 6, 7, 8, 9, 10, 11, 12, 13, 14, 15, 16, 17], []⟩, ⟨[], [2, 5, 6, 7, 8, 9, 10, 11, 12, 13, 14, 15, 16, 17, 18], []⟩, ⟨[], [2, 5, 6, 7, 8, 9, 10, 11, 12, 13, 14, 15, 16, 17, 18], []⟩, ⟨[], [2, 5, 6, 7, 8, 9, 10, 11, 12, 13, 14, 15, 16, 17, 18, 64], []⟩, ⟨[], [2, 5, 6, 7, 8, 9, 10, 11, 12, 13, 14, 15, 16, 17, 18, 81], []⟩, ⟨[], [4], []⟩, ⟨[], [2, 5, 6, 7, 8, 9, 10, 11, 12, 13, 14, 15, 16, 17, 18], []⟩, ⟨[], [2, 5, 6, 7, 8, 9, 10, 11, 12, 13, 14, 15, 16, 17, 18], []⟩, ⟨[], [4], []⟩]
theorem b_law03_FrameBytes : Body Try.prog 9 [] h_law03_FrameBytes c_law03_FrameBytes 121 [.tmp 4] := body_of Try.func9 (by kernel_rfl) (by kernel_rfl) (by kernel_rfl) (by kernel_rfl)
def r_law03_FrameTorn_0 : List I := [⟨some 22, .unOp .not 4 (.tmp 21), some (19, false)⟩, ⟨some 23, .pick (.tmp 19) (.const (.bool true)) (.tmp 22), none⟩, ⟨some 24, .move (.tmp 23), none⟩, ⟨some 25, .move (.tmp 2), some (24, false)⟩, ⟨some 26, .call { callee := .builtin .len, args := #[(.tmp 25)], argTypes := #[22] }, some (24, false)⟩, ⟨some 27, .binOp .gtr 3 (.tmp 26) (.const (.int .i64 100)) 3, some (24, false)⟩, ⟨some 28, .pick (.tmp 24) (.const (.bool true)) (.tmp 27), none⟩]
@[go_sem ↓] def ur_law03_FrameTorn_0 := @unI _ _ r_law03_FrameTorn_0.eq_1
def r_law03_FrameTorn_1 : List I := ⟨some 19, .move (.tmp 18), none⟩ :: ⟨some 20, .move (.tmp 0), some (19, false)⟩ :: ⟨some 21, .call { callee := .value (.func 37), args := #[(.tmp 20)], argTypes := #[40] }, some (19, false)⟩ :: r_law03_FrameTorn_0
@[go_sem ↓] def ur_law03_FrameTorn_1 := @unI _ _ r_law03_FrameTorn_1.eq_1
def r_law03_FrameTorn_2 : List I := [⟨some 6, .assign (.tmp 29), none⟩]
@[go_sem ↓] def ur_law03_FrameTorn_2 := @unI _ _ r_law03_FrameTorn_2.eq_1
def c_law03_FrameTorn_3 : C := (.seq (.seq (.reg (⟨some 29, .call { callee := .value (.func 38), args := #[], argTypes := #[] }, none⟩ :: r_law03_FrameTorn_2)) (.keep [6])) .ret)
@[go_sem ↓] def uc_law03_FrameTorn_3 := @unC _ _ c_law03_FrameTorn_3.eq_1
def c_law03_FrameTorn_4 : C := (.cond (.tmp 28) c_law03_FrameTorn_3 .skip)
@[go_sem ↓] def uc_law03_FrameTorn_4 := @unC _ _ c_law03_FrameTorn_4.eq_1
def r_law03_FrameTorn_5 : List I := [⟨some 30, .move (.tmp 32), none⟩, ⟨some 33, .extract (.tmp 30) 0, none⟩, ⟨some 34, .extract (.tmp 30) 1, none⟩, ⟨some 7, .assign (.tmp 33), none⟩, ⟨some 8, .assign (.tmp 34), none⟩]
@[go_sem ↓] def ur_law03_FrameTorn_5 := @unI _ _ r_law03_FrameTorn_5.eq_1
def r_law03_FrameTorn_6 : List I := [⟨some 55, .pick (.tmp 53) (.tmp 54) (.const (.bool false)), none⟩, ⟨some 6, .assign (.tmp 55), none⟩]
@[go_sem ↓] def ur_law03_FrameTorn_6 := @unI _ _ r_law03_FrameTorn_6.eq_1
def c_law03_FrameTorn_7 : C := (.seq (.seq (.reg (⟨some 47, .move (.tmp 8), none⟩ :: ⟨some 48, .binOp .eql 25 (.tmp 47) (.const (.int .i64 0)) 25, none⟩ :: ⟨some 49, .move (.tmp 48), none⟩ :: ⟨some 50, .move (.tmp 8), some (49, false)⟩ :: ⟨some 51, .binOp .eql 25 (.tmp 50) (.const (.int .i64 4)) 25, some (49, false)⟩ :: ⟨some 52, .pick (.tmp 49) (.const (.bool true)) (.tmp 51), none⟩ :: ⟨some 53, .move (.tmp 52), none⟩ :: ⟨some 54, .call { callee := .value (.func 38), args := #[], argTypes := #[] }, some (53, true)⟩ :: r_law03_FrameTorn_6)) (.keep [6])) .ret)
@[go_sem ↓] def uc_law03_FrameTorn_7 := @unC _ _ c_law03_FrameTorn_7.eq_1
def c_law03_FrameTorn_8 : C := (.cond (.tmp 46) c_law03_FrameTorn_7 .skip)
@[go_sem ↓] def uc_law03_FrameTorn_8 := @unC _ _ c_law03_FrameTorn_8.eq_1
def r_law03_FrameTorn_9 : List I := [⟨some 56, .move (.tmp 60), none⟩, ⟨some 61, .extract (.tmp 56) 0, none⟩, ⟨some 62, .extract (.tmp 56) 1, none⟩, ⟨some 63, .extract (.tmp 56) 2, none⟩, ⟨some 9, .assign (.tmp 61), none⟩, ⟨some 10, .assign (.tmp 62), none⟩, ⟨some 11, .assign (.tmp 63), none⟩]
@[go_sem ↓] def ur_law03_FrameTorn_9 := @unI _ _ r_law03_FrameTorn_9.eq_1
def r_law03_FrameTorn_10 : List I := [⟨some 64, .move (.tmp 67), none⟩, ⟨some 68, .extract (.tmp 64) 0, none⟩, ⟨some 69, .extract (.tmp 64) 1, none⟩, ⟨some 12, .assign (.tmp 68), none⟩, ⟨some 13, .assign (.tmp 69), none⟩]
@[go_sem ↓] def ur_law03_FrameTorn_10 := @unI _ _ r_law03_FrameTorn_10.eq_1
def r_law03_FrameTorn_11 : List I := [⟨some 89, .unOp .not 4 (.tmp 88), some (83, false)⟩, ⟨some 90, .pick (.tmp 83) (.const (.bool true)) (.tmp 89), none⟩]
@[go_sem ↓] def ur_law03_FrameTorn_11 := @unI _ _ r_law03_FrameTorn_11.eq_1
def c_law03_FrameTorn_12 : C := (.seq (.seq (.reg ([⟨some 6, .assign (.const (.bool false)), none⟩])) (.keep [6])) .ret)
@[go_sem ↓] def uc_law03_FrameTorn_12 := @unC _ _ c_law03_FrameTorn_12.eq_1
def c_law03_FrameTorn_13 : C := (.cond (.tmp 90) c_law03_FrameTorn_12 .skip)
@[go_sem ↓] def uc_law03_FrameTorn_13 := @unC _ _ c_law03_FrameTorn_13.eq_1
def r_law03_FrameTorn_14 : List I := [⟨some 6, .assign (.tmp 97), none⟩]
@[go_sem ↓] def ur_law03_FrameTorn_14 := @unI _ _ r_law03_FrameTorn_14.eq_1
def c_law03_FrameTorn_15 : C := (.seq (.seq (.reg (⟨some 97, .call { callee := .value (.func 38), args := #[], argTypes := #[] }, none⟩ :: r_law03_FrameTorn_14)) (.keep [6])) .ret)
@[go_sem ↓] def uc_law03_FrameTorn_15 := @unC _ _ c_law03_FrameTorn_15.eq_1
def c_law03_FrameTorn_16 : C := (.cond (.tmp 96) c_law03_FrameTorn_15 .skip)
@[go_sem ↓] def uc_law03_FrameTorn_16 := @unC _ _ c_law03_FrameTorn_16.eq_1
def r_law03_FrameTorn_17 : List I := [⟨some 98, .move (.tmp 102), none⟩, ⟨some 103, .extract (.tmp 98) 0, none⟩, ⟨some 104, .extract (.tmp 98) 1, none⟩, ⟨some 105, .extract (.tmp 98) 2, none⟩, ⟨some 14, .assign (.tmp 103), none⟩, ⟨some 15, .assign (.tmp 104), none⟩, ⟨some 16, .assign (.tmp 105), none⟩]
@[go_sem ↓] def ur_law03_FrameTorn_17 := @unI _ _ r_law03_FrameTorn_17.eq_1
def r_law03_FrameTorn_18 : List I := [⟨some 131, .pick (.tmp 129) (.tmp 130) (.const (.bool false)), none⟩, ⟨some 6, .assign (.tmp 131), none⟩]
@[go_sem ↓] def ur_law03_FrameTorn_18 := @unI _ _ r_law03_FrameTorn_18.eq_1
def r_law03_FrameTorn_19 : List I := ⟨some 122, .pick (.tmp 115) (.tmp 121) (.const (.bool false)), none⟩ :: ⟨some 123, .move (.tmp 122), none⟩ :: ⟨some 124, .move (.tmp 15), some (123, true)⟩ :: ⟨some 125, .move (.tmp 7), some (123, true)⟩ :: ⟨some 126, .call { callee := .builtin .len, args := #[(.tmp 125)], argTypes := #[22] }, some (123, true)⟩ :: ⟨some 127, .binOp .geq 3 (.tmp 124) (.tmp 126) 3, some (123, true)⟩ :: ⟨some 128, .pick (.tmp 123) (.tmp 127) (.const (.bool false)), none⟩ :: ⟨some 129, .move (.tmp 128), none⟩ :: ⟨some 130, .call { callee := .value (.func 38), args := #[], argTypes := #[] }, some (129, true)⟩ :: r_law03_FrameTorn_18
@[go_sem ↓] def ur_law03_FrameTorn_19 := @unI _ _ r_law03_FrameTorn_19.eq_1
def c_law03_FrameTorn_20 : C := (.seq (.seq (.reg (⟨some 106, .move (.tmp 16), none⟩ :: ⟨some 107, .binOp .eql 25 (.tmp 106) (.const (.int .i64 0)) 25, none⟩ :: ⟨some 108, .move (.tmp 107), none⟩ :: ⟨some 109, .move (.tmp 14), some (108, true)⟩ :: ⟨some 110, .call { callee := .builtin .len, args := #[(.tmp 109)], argTypes := #[40] }, some (108, true)⟩ :: ⟨some 111, .move (.tmp 0), some (108, true)⟩ :: ⟨some 112, .call { callee := .builtin .len, args := #[(.tmp 111)], argTypes := #[40] }, some (108, true)⟩ :: ⟨some 113, .binOp .geq 3 (.tmp 110) (.tmp 112) 3, some (108, true)⟩ :: ⟨some 114, .pick (.tmp 108) (.tmp 113) (.const (.bool false)), none⟩ :: ⟨some 115, .move (.tmp 114), none⟩ :: ⟨some 116, .move (.tmp 14), some (115, true)⟩ :: ⟨some 117, .move (.tmp 0), some (115, true)⟩ :: ⟨some 118, .call { callee := .builtin .len, args := #[(.tmp 117)], argTypes := #[40] }, some (115, true)⟩ :: ⟨some 119, .slice 40 (.tmp 116) none (some (.tmp 118)) none, some (115, true)⟩ :: ⟨some 120, .move (.tmp 0), some (115, true)⟩ :: ⟨some 121, .call { callee := .value (.func 26), args := #[(.tmp 119), (.tmp 120)], argTypes := #[40, 40] }, some (115, true)⟩ :: r_law03_FrameTorn_19)) (.keep [6])) .ret)
@[go_sem ↓] def uc_law03_FrameTorn_20 := @unC _ _ c_law03_FrameTorn_20.eq_1
def c_law03_FrameTorn_21 : C := (.seq (.seq (.reg (⟨some 99, .move (.tmp 7), none⟩ :: ⟨some 100, .move (.tmp 2), none⟩ :: ⟨some 101, .call { callee := .builtin .append, args := #[(.tmp 99), (.tmp 100)], argTypes := #[22, 22] }, none⟩ :: ⟨some 102, .call { callee := .value (.func 24), args := #[(.tmp 101)], argTypes := #[22] }, none⟩ :: r_law03_FrameTorn_17)) (.keep [0, 7, 14, 15, 16])) c_law03_FrameTorn_20)
@[go_sem ↓] def uc_law03_FrameTorn_21 := @unC _ _ c_law03_FrameTorn_21.eq_1
def c_law03_FrameTorn_22 : C := (.seq (.seq (.seq (.reg ([⟨some 91, .move (.tmp 7), none⟩, ⟨some 92, .call { callee := .builtin .len, args := #[(.tmp 91)], argTypes := #[22] }, none⟩, ⟨some 93, .move (.tmp 2), none⟩, ⟨some 94, .call { callee := .builtin .len, args := #[(.tmp 93)], argTypes := #[22] }, none⟩, ⟨some 95, .binOp .add 3 (.tmp 92) (.tmp 94) 3, none⟩, ⟨some 96, .binOp .gtr 3 (.tmp 95) (.const (.int .i64 20000)) 3, none⟩])) (.keep [0, 2, 7, 96])) c_law03_FrameTorn_16) c_law03_FrameTorn_21)
@[go_sem ↓] def uc_law03_FrameTorn_22 := @unC _ _ c_law03_FrameTorn_22.eq_1
def c_law03_FrameTorn_23 : C := (.seq (.seq (.seq (.reg (⟨some 70, .move (.tmp 11), none⟩ :: ⟨some 71, .binOp .neq 25 (.tmp 70) (.const (.int .i64 0)) 25, none⟩ :: ⟨some 72, .move (.tmp 71), none⟩ :: ⟨some 73, .move (.tmp 9), some (72, false)⟩ :: ⟨some 74, .call { callee := .builtin .len, args := #[(.tmp 73)], argTypes := #[40] }, some (72, false)⟩ :: ⟨some 75, .move (.tmp 12), some (72, false)⟩ :: ⟨some 76, .binOp .neq 3 (.tmp 74) (.tmp 75) 3, some (72, false)⟩ :: ⟨some 77, .pick (.tmp 72) (.const (.bool true)) (.tmp 76), none⟩ :: ⟨some 78, .move (.tmp 77), none⟩ :: ⟨some 79, .move (.tmp 10), some (78, false)⟩ :: ⟨some 80, .move (.tmp 13), some (78, false)⟩ :: ⟨some 81, .binOp .neq 3 (.tmp 79) (.tmp 80) 3, some (78, false)⟩ :: ⟨some 82, .pick (.tmp 78) (.const (.bool true)) (.tmp 81), none⟩ :: ⟨some 83, .move (.tmp 82), none⟩ :: ⟨some 84, .move (.tmp 9), some (83, false)⟩ :: ⟨some 85, .move (.tmp 0), some (83, false)⟩ :: ⟨some 86, .move (.tmp 12), some (83, false)⟩ :: ⟨some 87, .slice 40 (.tmp 85) none (some (.tmp 86)) none, some (83, false)⟩ :: ⟨some 88, .call { callee := .value (.func 26), args := #[(.tmp 84), (.tmp 87)], argTypes := #[40, 40] }, some (83, false)⟩ :: r_law03_FrameTorn_11)) (.keep [0, 2, 7, 90])) c_law03_FrameTorn_13) c_law03_FrameTorn_22)
@[go_sem ↓] def uc_law03_FrameTorn_23 := @unC _ _ c_law03_FrameTorn_23.eq_1
def c_law03_FrameTorn_24 : C := (.seq (.seq (.reg (⟨some 65, .move (.tmp 0), none⟩ :: ⟨some 66, .move (.tmp 1), none⟩ :: ⟨some 67, .call { callee := .value (.func 39), args := #[(.tmp 65), (.tmp 66)], argTypes := #[40, 3] }, none⟩ :: r_law03_FrameTorn_10)) (.keep [0, 2, 7, 9, 10, 11, 12, 13])) c_law03_FrameTorn_23)
@[go_sem ↓] def uc_law03_FrameTorn_24 := @unC _ _ c_law03_FrameTorn_24.eq_1
def c_law03_FrameTorn_25 : C := (.seq (.seq (.reg (⟨some 57, .move (.tmp 7), none⟩ :: ⟨some 58, .move (.tmp 1), none⟩ :: ⟨some 59, .slice 22 (.tmp 57) none (some (.tmp 58)) none, none⟩ :: ⟨some 60, .call { callee := .value (.func 24), args := #[(.tmp 59)], argTypes := #[22] }, none⟩ :: r_law03_FrameTorn_9)) (.keep [0, 1, 2, 7, 9, 10, 11])) c_law03_FrameTorn_24)
@[go_sem ↓] def uc_law03_FrameTorn_25 := @unC _ _ c_law03_FrameTorn_25.eq_1
def c_law03_FrameTorn_26 : C := (.seq (.seq (.seq (.reg ([⟨some 35, .move (.tmp 8), none⟩, ⟨some 36, .binOp .neq 25 (.tmp 35) (.const (.int .i64 0)) 25, none⟩, ⟨some 37, .move (.tmp 36), none⟩, ⟨some 38, .move (.tmp 1), some (37, false)⟩, ⟨some 39, .binOp .lss 3 (.tmp 38) (.const (.int .i64 0)) 3, some (37, false)⟩, ⟨some 40, .pick (.tmp 37) (.const (.bool true)) (.tmp 39), none⟩, ⟨some 41, .move (.tmp 40), none⟩, ⟨some 42, .move (.tmp 1), some (41, false)⟩, ⟨some 43, .move (.tmp 7), some (41, false)⟩, ⟨some 44, .call { callee := .builtin .len, args := #[(.tmp 43)], argTypes := #[22] }, some (41, false)⟩, ⟨some 45, .binOp .gtr 3 (.tmp 42) (.tmp 44) 3, some (41, false)⟩, ⟨some 46, .pick (.tmp 41) (.const (.bool true)) (.tmp 45), none⟩])) (.keep [0, 1, 2, 7, 8, 46])) c_law03_FrameTorn_8) c_law03_FrameTorn_25)
@[go_sem ↓] def uc_law03_FrameTorn_26 := @unC _ _ c_law03_FrameTorn_26.eq_1
def c_law03_FrameTorn_27 : C := (.seq (.seq (.reg (⟨some 31, .move (.tmp 0), none⟩ :: ⟨some 32, .call { callee := .value (.func 34), args := #[(.tmp 31)], argTypes := #[40] }, none⟩ :: r_law03_FrameTorn_5)) (.keep [0, 1, 2, 7, 8])) c_law03_FrameTorn_26)
@[go_sem ↓] def uc_law03_FrameTorn_27 := @unC _ _ c_law03_FrameTorn_27.eq_1
def c_law03_FrameTorn_28 : C := (.seq (.seq (.seq (.reg (⟨some 17, .move (.tmp 0), none⟩ :: ⟨some 18, .call { callee := .value (.func 29), args := #[(.tmp 17)], argTypes := #[40] }, none⟩ :: r_law03_FrameTorn_1)) (.keep [0, 1, 2, 28])) c_law03_FrameTorn_4) c_law03_FrameTorn_27)
@[go_sem ↓] def uc_law03_FrameTorn_28 := @unC _ _ c_law03_FrameTorn_28.eq_1
def c_law03_FrameTorn : C := (.seq (.seq (.reg ([⟨some 6, .assign (.const (.bool false)), none⟩])) (.keep [0, 1, 2])) c_law03_FrameTorn_28)
attribute [go_sem ↓] c_law03_FrameTorn
def h_law03_FrameTorn : List Hint := [⟨[], [0, 1, 2], []⟩, ⟨[], [0, 1, 2, 28], []⟩, ⟨[], [6], []⟩, ⟨[], [0, 1, 2, 7, 8], []⟩, ⟨[], [0, 1, 2, 7, 8, 46], []⟩, ⟨[], [6], []⟩, ⟨[], [0, 1, 2, 7, 9, 10, 11], []⟩, ⟨[], [0, 2, 7, 9, 10, 11, 12, 13], []⟩, ⟨[], [0, 2, 7, 90], []⟩, ⟨[], [6], []⟩, ⟨[], [0, 2, 7, 96], []⟩, ⟨[], [6], []⟩, ⟨[], [0, 7, 14, 15, 16], []⟩, ⟨[], [6], []⟩]
theorem b_law03_FrameTorn : Body Try.prog 10 [] h_law03_FrameTorn c_law03_FrameTorn 132 [.tmp 6] := body_of Try.func10 (by kernel_rfl) (by kernel_rfl) (by kernel_rfl) (by kernel_rfl)
def r_law03_FrameBack_0 : List I := [⟨some 2, .assign (.tmp 14), none⟩]
@[go_sem ↓] def ur_law03_FrameBack_0 := @unI _ _ r_law03_FrameBack_0.eq_1
def c_law03_FrameBack_1 : C := (.seq (.seq (.reg (⟨some 14, .call { callee := .value (.func 38), args := #[], argTypes := #[] }, none⟩ :: r_law03_FrameBack_0)) (.keep [2])) .ret)
@[go_sem ↓] def uc_law03_FrameBack_1 := @unC _ _ c_law03_FrameBack_1.eq_1
def c_law03_FrameBack_2 : C := (.cond (.tmp 13) c_law03_FrameBack_1 .skip)
@[go_sem ↓] def uc_law03_FrameBack_2 := @unC _ _ c_law03_FrameBack_2.eq_1
def r_law03_FrameBack_3 : List I := [⟨some 15, .move (.tmp 17), none⟩, ⟨some 18, .extract (.tmp 15) 0, none⟩, ⟨some 19, .extract (.tmp 15) 1, none⟩, ⟨some 20, .extract (.tmp 15) 2, none⟩, ⟨some 3, .assign (.tmp 18), none⟩, ⟨some 4, .assign (.tmp 19), none⟩, ⟨some 5, .assign (.tmp 20), none⟩]
@[go_sem ↓] def ur_law03_FrameBack_3 := @unI _ _ r_law03_FrameBack_3.eq_1
def r_law03_FrameBack_4 : List I := [⟨some 36, .unOp .not 4 (.tmp 35), some (33, false)⟩, ⟨some 37, .pick (.tmp 33) (.const (.bool true)) (.tmp 36), none⟩]
@[go_sem ↓] def ur_law03_FrameBack_4 := @unI _ _ r_law03_FrameBack_4.eq_1
def c_law03_FrameBack_5 : C := (.seq (.seq (.reg ([⟨some 2, .assign (.const (.bool false)), none⟩])) (.keep [2])) .ret)
@[go_sem ↓] def uc_law03_FrameBack_5 := @unC _ _ c_law03_FrameBack_5.eq_1
def c_law03_FrameBack_6 : C := (.cond (.tmp 37) c_law03_FrameBack_5 .skip)
@[go_sem ↓] def uc_law03_FrameBack_6 := @unC _ _ c_law03_FrameBack_6.eq_1
def r_law03_FrameBack_7 : List I := [⟨some 38, .move (.tmp 40), none⟩, ⟨some 41, .extract (.tmp 38) 0, none⟩, ⟨some 42, .extract (.tmp 38) 1, none⟩, ⟨some 6, .assign (.tmp 41), none⟩, ⟨some 7, .assign (.tmp 42), none⟩]
@[go_sem ↓] def ur_law03_FrameBack_7 := @unI _ _ r_law03_FrameBack_7.eq_1
def r_law03_FrameBack_8 : List I := [⟨some 43, .move (.tmp 47), none⟩, ⟨some 48, .extract (.tmp 43) 0, none⟩, ⟨some 49, .extract (.tmp 43) 1, none⟩, ⟨some 50, .extract (.tmp 43) 2, none⟩, ⟨some 8, .assign (.tmp 48), none⟩, ⟨some 9, .assign (.tmp 49), none⟩, ⟨some 10, .assign (.tmp 50), none⟩]
@[go_sem ↓] def ur_law03_FrameBack_8 := @unI _ _ r_law03_FrameBack_8.eq_1
def r_law03_FrameBack_9 : List I := [⟨some 76, .pick (.tmp 74) (.tmp 75) (.const (.bool false)), none⟩, ⟨some 2, .assign (.tmp 76), none⟩]
@[go_sem ↓] def ur_law03_FrameBack_9 := @unI _ _ r_law03_FrameBack_9.eq_1
def r_law03_FrameBack_10 : List I := ⟨some 73, .pick (.tmp 69) (.tmp 72) (.const (.bool false)), none⟩ :: ⟨some 74, .move (.tmp 73), none⟩ :: ⟨some 75, .call { callee := .value (.func 38), args := #[], argTypes := #[] }, some (74, true)⟩ :: r_law03_FrameBack_9
@[go_sem ↓] def ur_law03_FrameBack_10 := @unI _ _ r_law03_FrameBack_10.eq_1
def r_law03_FrameBack_11 : List I := ⟨some 59, .pick (.tmp 53) (.tmp 58) (.const (.bool false)), none⟩ :: ⟨some 60, .move (.tmp 59), none⟩ :: ⟨some 61, .move (.tmp 10), some (60, true)⟩ :: ⟨some 62, .binOp .eql 25 (.tmp 61) (.const (.int .i64 0)) 25, some (60, true)⟩ :: ⟨some 63, .pick (.tmp 60) (.tmp 62) (.const (.bool false)), none⟩ :: ⟨some 64, .move (.tmp 63), none⟩ :: ⟨some 65, .move (.tmp 9), some (64, true)⟩ :: ⟨some 66, .move (.tmp 4), some (64, true)⟩ :: ⟨some 67, .binOp .eql 3 (.tmp 65) (.tmp 66) 3, some (64, true)⟩ :: ⟨some 68, .pick (.tmp 64) (.tmp 67) (.const (.bool false)), none⟩ :: ⟨some 69, .move (.tmp 68), none⟩ :: ⟨some 70, .move (.tmp 3), some (69, true)⟩ :: ⟨some 71, .move (.tmp 8), some (69, true)⟩ :: ⟨some 72, .call { callee := .value (.func 26), args := #[(.tmp 70), (.tmp 71)], argTypes := #[40, 40] }, some (69, true)⟩ :: r_law03_FrameBack_10
@[go_sem ↓] def ur_law03_FrameBack_11 := @unI _ _ r_law03_FrameBack_11.eq_1
def c_law03_FrameBack_12 : C := (.seq (.seq (.reg (⟨some 51, .move (.tmp 7), none⟩ :: ⟨some 52, .binOp .eql 25 (.tmp 51) (.const (.int .i64 0)) 25, none⟩ :: ⟨some 53, .move (.tmp 52), none⟩ :: ⟨some 54, .move (.tmp 6), some (53, true)⟩ :: ⟨some 55, .move (.tmp 0), some (53, true)⟩ :: ⟨some 56, .move (.tmp 4), some (53, true)⟩ :: ⟨some 57, .slice 22 (.tmp 55) none (some (.tmp 56)) none, some (53, true)⟩ :: ⟨some 58, .call { callee := .value (.func 36), args := #[(.tmp 54), (.tmp 57)], argTypes := #[22, 22] }, some (53, true)⟩ :: r_law03_FrameBack_11)) (.keep [2])) .ret)
@[go_sem ↓] def uc_law03_FrameBack_12 := @unC _ _ c_law03_FrameBack_12.eq_1
def c_law03_FrameBack_13 : C := (.seq (.seq (.reg (⟨some 44, .move (.tmp 0), none⟩ :: ⟨some 45, .move (.tmp 4), none⟩ :: ⟨some 46, .slice 22 (.tmp 44) none (some (.tmp 45)) none, none⟩ :: ⟨some 47, .call { callee := .value (.func 24), args := #[(.tmp 46)], argTypes := #[22] }, none⟩ :: r_law03_FrameBack_8)) (.keep [0, 3, 4, 6, 7, 8, 9, 10])) c_law03_FrameBack_12)
@[go_sem ↓] def uc_law03_FrameBack_13 := @unC _ _ c_law03_FrameBack_13.eq_1
def c_law03_FrameBack_14 : C := (.seq (.seq (.reg (⟨some 39, .move (.tmp 3), none⟩ :: ⟨some 40, .call { callee := .value (.func 34), args := #[(.tmp 39)], argTypes := #[40] }, none⟩ :: r_law03_FrameBack_7)) (.keep [0, 3, 4, 6, 7])) c_law03_FrameBack_13)
@[go_sem ↓] def uc_law03_FrameBack_14 := @unC _ _ c_law03_FrameBack_14.eq_1
def c_law03_FrameBack_15 : C := (.seq (.seq (.seq (.reg (⟨some 21, .move (.tmp 5), none⟩ :: ⟨some 22, .binOp .neq 25 (.tmp 21) (.const (.int .i64 0)) 25, none⟩ :: ⟨some 23, .move (.tmp 22), none⟩ :: ⟨some 24, .move (.tmp 4), some (23, false)⟩ :: ⟨some 25, .binOp .lss 3 (.tmp 24) (.const (.int .i64 0)) 3, some (23, false)⟩ :: ⟨some 26, .pick (.tmp 23) (.const (.bool true)) (.tmp 25), none⟩ :: ⟨some 27, .move (.tmp 26), none⟩ :: ⟨some 28, .move (.tmp 4), some (27, false)⟩ :: ⟨some 29, .move (.tmp 0), some (27, false)⟩ :: ⟨some 30, .call { callee := .builtin .len, args := #[(.tmp 29)], argTypes := #[22] }, some (27, false)⟩ :: ⟨some 31, .binOp .gtr 3 (.tmp 28) (.tmp 30) 3, some (27, false)⟩ :: ⟨some 32, .pick (.tmp 27) (.const (.bool true)) (.tmp 31), none⟩ :: ⟨some 33, .move (.tmp 32), none⟩ :: ⟨some 34, .move (.tmp 3), some (33, false)⟩ :: ⟨some 35, .call { callee := .value (.func 37), args := #[(.tmp 34)], argTypes := #[40] }, some (33, false)⟩ :: r_law03_FrameBack_4)) (.keep [0, 3, 4, 37])) c_law03_FrameBack_6) c_law03_FrameBack_14)
@[go_sem ↓] def uc_law03_FrameBack_15 := @unC _ _ c_law03_FrameBack_15.eq_1
def c_law03_FrameBack_16 : C := (.seq (.seq (.reg (⟨some 16, .move (.tmp 0), none⟩ :: ⟨some 17, .call { callee := .value (.func 24), args := #[(.tmp 16)], argTypes := #[22] }, none⟩ :: r_law03_FrameBack_3)) (.keep [0, 3, 4, 5])) c_law03_FrameBack_15)
@[go_sem ↓] def uc_law03_FrameBack_16 := @unC _ _ c_law03_FrameBack_16.eq_1
def c_law03_FrameBack_17 : C := (.seq (.seq (.seq (.reg ([⟨some 11, .move (.tmp 0), none⟩, ⟨some 12, .call { callee := .builtin .len, args := #[(.tmp 11)], argTypes := #[22] }, none⟩, ⟨some 13, .binOp .gtr 3 (.tmp 12) (.const (.int .i64 2000)) 3, none⟩])) (.keep [0, 13])) c_law03_FrameBack_2) c_law03_FrameBack_16)
@[go_sem ↓] def uc_law03_FrameBack_17 := @unC _ _ c_law03_FrameBack_17.eq_1
def c_law03_FrameBack : C := (.seq (.seq (.reg ([⟨some 2, .assign (.const (.bool false)), none⟩])) (.keep [0])) c_law03_FrameBack_17)
attribute [go_sem ↓] c_law03_FrameBack
def h_law03_FrameBack : List Hint := [⟨[], [0], []⟩, ⟨[], [0, 13], []⟩, ⟨[], [2], []⟩, ⟨[], [0, 3, 4, 5], []⟩, ⟨[], [0, 3, 4, 37], []⟩, ⟨[], [2], []⟩, ⟨[], [0, 3, 4, 6, 7], []⟩, ⟨[], [0, 3, 4, 6, 7, 8, 9, 10], []⟩, ⟨[], [2], []⟩]
theorem b_law03_FrameBack : Body Try.prog 11 [] h_law03_FrameBack c_law03_FrameBack 77 [.tmp 2] := body_of Try.func11 (by kernel_rfl) (by kernel_rfl) (by kernel_rfl) (by kernel_rfl)
def r_law03_FrameFlips_0 : List I := [⟨some 21, .unOp .not 4 (.tmp 20), some (18, false)⟩, ⟨some 22, .pick (.tmp 18) (.const (.bool true)) (.tmp 21), none⟩, ⟨some 23, .move (.tmp 22), none⟩, ⟨some 24, .move (.tmp 1), some (23, false)⟩, ⟨some 25, .binOp .lss 3 (.tmp 24) (.const (.int .i64 0)) 3, some (23, false)⟩, ⟨some 26, .pick (.tmp 23) (.const (.bool true)) (.tmp 25), none⟩, ⟨some 27, .move (.tmp 26), none⟩, ⟨some 28, .move (.tmp 1), some (27, false)⟩, ⟨some 29, .move (.tmp 0), some (27, false)⟩, ⟨some 30, .call { callee := .builtin .len, args := #[(.tmp 29)], argTypes := #[40] }, some (27, false)⟩, ⟨some 31, .binOp .geq 3 (.tmp 28) (.tmp 30) 3, some (27, false)⟩, ⟨some 32, .pick (.tmp 27) (.const (.bool true)) (.tmp 31), none⟩, ⟨some 33, .move (.tmp 32), none⟩, ⟨some 34, .move (.tmp 2), some (33, false)⟩, ⟨some 35, .binOp .lss 3 (.tmp 34) (.const (.int .i64 4)) 3, some (33, false)⟩, ⟨some 36, .pick (.tmp 33) (.const (.bool true)) (.tmp 35), none⟩, ⟨some 37, .move (.tmp 36), none⟩, ⟨some 38, .move (.tmp 2), some (37, false)⟩, ⟨some 39, .move (.tmp 0), some (37, false)⟩, ⟨some 40, .move (.tmp 1), some (37, false)⟩, ⟨some 41, .indexAddr 40 (.tmp 39) (.tmp 40), some (37, false)⟩, ⟨some 42, .fieldAddr 51 (.tmp 41) 1, some (37, false)⟩, ⟨some 43, .load 22 (.tmp 42), some (37, false)⟩, ⟨some 44, .call { callee := .builtin .len, args := #[(.tmp 43)], argTypes := #[22] }, some (37, false)⟩, ⟨some 45, .binOp .add 3 (.const (.int .i64 12)) (.tmp 44) 3, some (37, false)⟩, ⟨some 46, .binOp .geq 3 (.tmp 38) (.tmp 45) 3, some (37, false)⟩, ⟨some 47, .pick (.tmp 37) (.const (.bool true)) (.tmp 46), none⟩, ⟨some 48, .move (.tmp 47), none⟩, ⟨some 49, .move (.tmp 3), some (48, false)⟩, ⟨some 50, .binOp .eql 5 (.tmp 49) (.const (.int .u8 0)) 5, some (48, false)⟩, ⟨some 51, .pick (.tmp 48) (.const (.bool true)) (.tmp 50), none⟩]
@[go_sem ↓] def ur_law03_FrameFlips_0 := @unI _ _ r_law03_FrameFlips_0.eq_1
def r_law03_FrameFlips_1 : List I := ⟨some 18, .move (.tmp 17), none⟩ :: ⟨some 19, .move (.tmp 0), some (18, false)⟩ :: ⟨some 20, .call { callee := .value (.func 37), args := #[(.tmp 19)], argTypes := #[40] }, some (18, false)⟩ :: r_law03_FrameFlips_0
@[go_sem ↓] def ur_law03_FrameFlips_1 := @unI _ _ r_law03_FrameFlips_1.eq_1
def r_law03_FrameFlips_2 : List I := [⟨some 8, .assign (.tmp 52), none⟩]
@[go_sem ↓] def ur_law03_FrameFlips_2 := @unI _ _ r_law03_FrameFlips_2.eq_1
def c_law03_FrameFlips_3 : C := (.seq (.seq (.reg (⟨some 52, .call { callee := .value (.func 38), args := #[], argTypes := #[] }, none⟩ :: r_law03_FrameFlips_2)) (.keep [8])) .ret)
@[go_sem ↓] def uc_law03_FrameFlips_3 := @unC _ _ c_law03_FrameFlips_3.eq_1
def c_law03_FrameFlips_4 : C := (.cond (.tmp 51) c_law03_FrameFlips_3 .skip)
@[go_sem ↓] def uc_law03_FrameFlips_4 := @unC _ _ c_law03_FrameFlips_4.eq_1
def r_law03_FrameFlips_5 : List I := [⟨some 53, .move (.tmp 55), none⟩, ⟨some 56, .extract (.tmp 53) 0, none⟩, ⟨some 57, .extract (.tmp 53) 1, none⟩, ⟨some 9, .assign (.tmp 56), none⟩, ⟨some 10, .assign (.tmp 57), none⟩]
@[go_sem ↓] def ur_law03_FrameFlips_5 := @unI _ _ r_law03_FrameFlips_5.eq_1
def r_law03_FrameFlips_6 : List I := [⟨some 64, .pick (.tmp 62) (.tmp 63) (.const (.bool false)), none⟩, ⟨some 8, .assign (.tmp 64), none⟩]
@[go_sem ↓] def ur_law03_FrameFlips_6 := @unI _ _ r_law03_FrameFlips_6.eq_1
def c_law03_FrameFlips_7 : C := (.seq (.seq (.reg (⟨some 60, .move (.tmp 10), none⟩ :: ⟨some 61, .binOp .eql 25 (.tmp 60) (.const (.int .i64 4)) 25, none⟩ :: ⟨some 62, .move (.tmp 61), none⟩ :: ⟨some 63, .call { callee := .value (.func 38), args := #[], argTypes := #[] }, some (62, true)⟩ :: r_law03_FrameFlips_6)) (.keep [8])) .ret)
@[go_sem ↓] def uc_law03_FrameFlips_7 := @unC _ _ c_law03_FrameFlips_7.eq_1
def c_law03_FrameFlips_8 : C := (.cond (.tmp 59) c_law03_FrameFlips_7 .skip)
@[go_sem ↓] def uc_law03_FrameFlips_8 := @unC _ _ c_law03_FrameFlips_8.eq_1
def c_law03_FrameFlips_9 : C := (.cond (.tmp 67) .skip (.exit 0))
@[go_sem ↓] def uc_law03_FrameFlips_9 := @unC _ _ c_law03_FrameFlips_9.eq_1
def c_law03_FrameFlips_10 : C := (.seq (.reg ([⟨some 68, .move (.tmp 12), none⟩, ⟨some 69, .binOp .add 3 (.tmp 68) (.const (.int .i64 1)) 3, none⟩, ⟨some 12, .assign (.tmp 69), none⟩])) (.keep [0, 1, 2, 3, 9, 11, 12]))
@[go_sem ↓] def uc_law03_FrameFlips_10 := @unC _ _ c_law03_FrameFlips_10.eq_1
def c_law03_FrameFlips_11 : C := (.seq (.block 1 (.seq (.reg ([⟨some 70, .move (.tmp 11), none⟩, ⟨some 71, .move (.tmp 0), none⟩, ⟨some 72, .move (.tmp 12), none⟩, ⟨some 73, .indexAddr 40 (.tmp 71) (.tmp 72), none⟩, ⟨some 74, .fieldAddr 51 (.tmp 73) 1, none⟩, ⟨some 75, .load 22 (.tmp 74), none⟩, ⟨some 76, .call { callee := .builtin .len, args := #[(.tmp 75)], argTypes := #[22] }, none⟩, ⟨some 77, .binOp .add 3 (.const (.int .i64 12)) (.tmp 76) 3, none⟩, ⟨some 78, .binOp .add 3 (.tmp 70) (.tmp 77) 3, none⟩, ⟨some 11, .assign (.tmp 78), none⟩])) (.keep [0, 1, 2, 3, 9, 11, 12]))) c_law03_FrameFlips_10)
@[go_sem ↓] def uc_law03_FrameFlips_11 := @unC _ _ c_law03_FrameFlips_11.eq_1
def c_law03_FrameFlips_12 : C := (.seq (.seq (.seq (.reg ([⟨some 65, .move (.tmp 12), none⟩, ⟨some 66, .move (.tmp 1), none⟩, ⟨some 67, .binOp .lss 3 (.tmp 65) (.tmp 66) 3, none⟩])) (.keep [0, 1, 2, 3, 9, 11, 12, 67])) c_law03_FrameFlips_9) c_law03_FrameFlips_11)
@[go_sem ↓] def uc_law03_FrameFlips_12 := @unC _ _ c_law03_FrameFlips_12.eq_1
def c_law03_FrameFlips_13 : C := (.block 0 (.loop [] [0, 1, 2, 3, 9, 11, 12] c_law03_FrameFlips_12))
@[go_sem ↓] def uc_law03_FrameFlips_13 := @unC _ _ c_law03_FrameFlips_13.eq_1
def c_law03_FrameFlips_14 : C := (.seq (.seq (.reg ([⟨some 8, .assign (.const (.bool false)), none⟩])) (.keep [8])) .ret)
@[go_sem ↓] def uc_law03_FrameFlips_14 := @unC _ _ c_law03_FrameFlips_14.eq_1
def c_law03_FrameFlips_15 : C := (.cond (.tmp 84) c_law03_FrameFlips_14 .skip)
@[go_sem ↓] def uc_law03_FrameFlips_15 := @unC _ _ c_law03_FrameFlips_15.eq_1
def r_law03_FrameFlips_16 : List I := [⟨some 94, .move (.tmp 96), none⟩, ⟨some 97, .extract (.tmp 94) 0, none⟩, ⟨some 98, .extract (.tmp 94) 1, none⟩, ⟨some 99, .extract (.tmp 94) 2, none⟩, ⟨some 13, .assign (.tmp 97), none⟩, ⟨some 14, .assign (.tmp 98), none⟩, ⟨some 15, .assign (.tmp 99), none⟩]
@[go_sem ↓] def ur_law03_FrameFlips_16 := @unI _ _ r_law03_FrameFlips_16.eq_1
def r_law03_FrameFlips_17 : List I := [⟨some 122, .pick (.tmp 120) (.tmp 121) (.const (.bool false)), none⟩, ⟨some 8, .assign (.tmp 122), none⟩]
@[go_sem ↓] def ur_law03_FrameFlips_17 := @unI _ _ r_law03_FrameFlips_17.eq_1
def r_law03_FrameFlips_18 : List I := ⟨some 119, .pick (.tmp 113) (.tmp 118) (.const (.bool false)), none⟩ :: ⟨some 120, .move (.tmp 119), none⟩ :: ⟨some 121, .call { callee := .value (.func 38), args := #[], argTypes := #[] }, some (120, true)⟩ :: r_law03_FrameFlips_17
@[go_sem ↓] def ur_law03_FrameFlips_18 := @unI _ _ r_law03_FrameFlips_18.eq_1
def c_law03_FrameFlips_19 : C := (.seq (.seq (.reg (⟨some 100, .move (.tmp 15), none⟩ :: ⟨some 101, .binOp .eql 25 (.tmp 100) (.const (.int .i64 0)) 25, none⟩ :: ⟨some 102, .move (.tmp 101), none⟩ :: ⟨some 103, .move (.tmp 14), some (102, true)⟩ :: ⟨some 104, .move (.tmp 11), some (102, true)⟩ :: ⟨some 105, .binOp .eql 3 (.tmp 103) (.tmp 104) 3, some (102, true)⟩ :: ⟨some 106, .pick (.tmp 102) (.tmp 105) (.const (.bool false)), none⟩ :: ⟨some 107, .move (.tmp 106), none⟩ :: ⟨some 108, .move (.tmp 13), some (107, true)⟩ :: ⟨some 109, .call { callee := .builtin .len, args := #[(.tmp 108)], argTypes := #[40] }, some (107, true)⟩ :: ⟨some 110, .move (.tmp 1), some (107, true)⟩ :: ⟨some 111, .binOp .eql 3 (.tmp 109) (.tmp 110) 3, some (107, true)⟩ :: ⟨some 112, .pick (.tmp 107) (.tmp 111) (.const (.bool false)), none⟩ :: ⟨some 113, .move (.tmp 112), none⟩ :: ⟨some 114, .move (.tmp 13), some (113, true)⟩ :: ⟨some 115, .move (.tmp 0), some (113, true)⟩ :: ⟨some 116, .move (.tmp 1), some (113, true)⟩ :: ⟨some 117, .slice 40 (.tmp 115) none (some (.tmp 116)) none, some (113, true)⟩ :: ⟨some 118, .call { callee := .value (.func 26), args := #[(.tmp 114), (.tmp 117)], argTypes := #[40, 40] }, some (113, true)⟩ :: r_law03_FrameFlips_18)) (.keep [8])) .ret)
@[go_sem ↓] def uc_law03_FrameFlips_19 := @unC _ _ c_law03_FrameFlips_19.eq_1
def c_law03_FrameFlips_20 : C := (.seq (.seq (.reg (⟨some 95, .move (.tmp 9), none⟩ :: ⟨some 96, .call { callee := .value (.func 24), args := #[(.tmp 95)], argTypes := #[22] }, none⟩ :: r_law03_FrameFlips_16)) (.keep [0, 1, 11, 13, 14, 15])) c_law03_FrameFlips_19)
@[go_sem ↓] def uc_law03_FrameFlips_20 := @unC _ _ c_law03_FrameFlips_20.eq_1
def c_law03_FrameFlips_21 : C := (.seq (.seq (.reg ([⟨some 85, .move (.tmp 9), none⟩, ⟨some 86, .move (.tmp 11), none⟩, ⟨some 87, .move (.tmp 2), none⟩, ⟨some 88, .binOp .add 3 (.tmp 86) (.tmp 87) 3, none⟩, ⟨some 89, .indexAddr 22 (.tmp 85) (.tmp 88), none⟩, ⟨some 90, .load 5 (.tmp 89), none⟩, ⟨some 91, .move (.tmp 3), none⟩, ⟨some 92, .binOp .xor 5 (.tmp 90) (.tmp 91) 5, none⟩, ⟨some 93, .indexAddr 22 (.tmp 85) (.tmp 88), none⟩, ⟨none, .store 5 (.tmp 93) (.tmp 92), none⟩])) (.keep [0, 1, 9, 11])) c_law03_FrameFlips_20)
@[go_sem ↓] def uc_law03_FrameFlips_21 := @unC _ _ c_law03_FrameFlips_21.eq_1
def c_law03_FrameFlips_22 : C := (.seq (.seq (.seq (.reg ([⟨some 79, .move (.tmp 11), none⟩, ⟨some 80, .move (.tmp 2), none⟩, ⟨some 81, .binOp .add 3 (.tmp 79) (.tmp 80) 3, none⟩, ⟨some 82, .move (.tmp 9), none⟩, ⟨some 83, .call { callee := .builtin .len, args := #[(.tmp 82)], argTypes := #[22] }, none⟩, ⟨some 84, .binOp .geq 3 (.tmp 81) (.tmp 83) 3, none⟩])) (.keep [0, 1, 2, 3, 9, 11, 84])) c_law03_FrameFlips_15) c_law03_FrameFlips_21)
@[go_sem ↓] def uc_law03_FrameFlips_22 := @unC _ _ c_law03_FrameFlips_22.eq_1
def c_law03_FrameFlips_23 : C := (.seq (.seq (.seq (.reg ([⟨some 12, .assign (.const (.int .i64 0)), none⟩])) (.keep [0, 1, 2, 3, 9, 11, 12])) c_law03_FrameFlips_13) c_law03_FrameFlips_22)
@[go_sem ↓] def uc_law03_FrameFlips_23 := @unC _ _ c_law03_FrameFlips_23.eq_1
def c_law03_FrameFlips_24 : C := (.seq (.seq (.reg ([⟨some 11, .assign (.const (.int .i64 0)), none⟩])) (.keep [0, 1, 2, 3, 9, 11])) c_law03_FrameFlips_23)
@[go_sem ↓] def uc_law03_FrameFlips_24 := @unC _ _ c_law03_FrameFlips_24.eq_1
def c_law03_FrameFlips_25 : C := (.seq (.seq (.seq (.reg ([⟨some 58, .move (.tmp 10), none⟩, ⟨some 59, .binOp .neq 25 (.tmp 58) (.const (.int .i64 0)) 25, none⟩])) (.keep [0, 1, 2, 3, 9, 10, 59])) c_law03_FrameFlips_8) c_law03_FrameFlips_24)
@[go_sem ↓] def uc_law03_FrameFlips_25 := @unC _ _ c_law03_FrameFlips_25.eq_1
def c_law03_FrameFlips_26 : C := (.seq (.seq (.reg (⟨some 54, .move (.tmp 0), none⟩ :: ⟨some 55, .call { callee := .value (.func 34), args := #[(.tmp 54)], argTypes := #[40] }, none⟩ :: r_law03_FrameFlips_5)) (.keep [0, 1, 2, 3, 9, 10])) c_law03_FrameFlips_25)
@[go_sem ↓] def uc_law03_FrameFlips_26 := @unC _ _ c_law03_FrameFlips_26.eq_1
def c_law03_FrameFlips_27 : C := (.seq (.seq (.seq (.reg (⟨some 16, .move (.tmp 0), none⟩ :: ⟨some 17, .call { callee := .value (.func 29), args := #[(.tmp 16)], argTypes := #[40] }, none⟩ :: r_law03_FrameFlips_1)) (.keep [0, 1, 2, 3, 51])) c_law03_FrameFlips_4) c_law03_FrameFlips_26)
@[go_sem ↓] def uc_law03_FrameFlips_27 := @unC _ _ c_law03_FrameFlips_27.eq_1
def c_law03_FrameFlips : C := (.seq (.seq (.reg ([⟨some 8, .assign (.const (.bool false)), none⟩])) (.keep [0, 1, 2, 3])) c_law03_FrameFlips_27)
attribute [go_sem ↓] c_law03_FrameFlips
def h_law03_FrameFlips : List Hint := [⟨[], [0, 1, 2, 3], []⟩, ⟨[], [0, 1, 2, 3, 51], []⟩, ⟨[], [8], []⟩, ⟨[], [0, 1, 2, 3, 9, 10], []⟩, ⟨[], [0, 1, 2, 3, 9, 10, 59], []⟩, ⟨[], [8], []⟩, ⟨[], [0, 1, 2, 3, 9, 11], []⟩, ⟨[], [0, 1, 2, 3, 9, 11, 12], []⟩, ⟨[], [0, 1, 2, 3, 9, 11, 12], []⟩, ⟨[], [0, 1, 2, 3, 9, 11, 12, 67], []⟩, ⟨[], [0, 1, 2, 3, 9, 11, 12], []⟩, ⟨[], [0, 1, 2, 3, 9, 11, 12], []⟩, ⟨[], [0, 1, 2, 3, 9, 11, 84], []⟩, ⟨[], [8], []⟩, ⟨[], [0, 1, 9, 11], []⟩, ⟨[], [0, 1, 11, 13, 14, 15], []⟩, ⟨[], [8], []⟩]
theorem b_law03_FrameFlips : Body Try.prog 12 [] h_law03_FrameFlips c_law03_FrameFlips 123 [.tmp 8] := body_of Try.func12 (by kernel_rfl) (by kernel_rfl) (by kernel_rfl) (by kernel_rfl)
def r_law03_FrameNames_0 : List I := [⟨some 36, .move (.tmp 38), none⟩, ⟨some 39, .extract (.tmp 36) 0, none⟩, ⟨some 40, .extract (.tmp 36) 1, none⟩, ⟨some 1, .assign (.tmp 39), none⟩, ⟨some 2, .assign (.tmp 40), none⟩]
@[go_sem ↓] def ur_law03_FrameNames_0 := @unI _ _ r_law03_FrameNames_0.eq_1
def r_law03_FrameNames_1 : List I := [⟨some 41, .move (.tmp 43), none⟩, ⟨some 44, .extract (.tmp 41) 0, none⟩, ⟨some 45, .extract (.tmp 41) 1, none⟩, ⟨some 3, .assign (.tmp 44), none⟩, ⟨some 4, .assign (.tmp 45), none⟩]
@[go_sem ↓] def ur_law03_FrameNames_1 := @unI _ _ r_law03_FrameNames_1.eq_1
def r_law03_FrameNames_2 : List I := [⟨some 46, .move (.tmp 49), none⟩, ⟨some 50, .extract (.tmp 46) 0, none⟩, ⟨some 51, .extract (.tmp 46) 1, none⟩, ⟨some 5, .assign (.tmp 50), none⟩, ⟨some 6, .assign (.tmp 51), none⟩]
@[go_sem ↓] def ur_law03_FrameNames_2 := @unI _ _ r_law03_FrameNames_2.eq_1
def r_law03_FrameNames_3 : List I := [⟨some 52, .move (.tmp 55), none⟩, ⟨some 56, .extract (.tmp 52) 0, none⟩, ⟨some 57, .extract (.tmp 52) 1, none⟩, ⟨some 7, .assign (.tmp 56), none⟩, ⟨some 8, .assign (.tmp 57), none⟩]
@[go_sem ↓] def ur_law03_FrameNames_3 := @unI _ _ r_law03_FrameNames_3.eq_1
def r_law03_FrameNames_4 : List I := [⟨some 58, .move (.tmp 60), none⟩, ⟨some 61, .extract (.tmp 58) 0, none⟩, ⟨some 62, .extract (.tmp 58) 1, none⟩, ⟨some 9, .assign (.tmp 61), none⟩, ⟨some 10, .assign (.tmp 62), none⟩]
@[go_sem ↓] def ur_law03_FrameNames_4 := @unI _ _ r_law03_FrameNames_4.eq_1
def r_law03_FrameNames_5 : List I := [⟨some 63, .move (.tmp 65), none⟩, ⟨some 66, .extract (.tmp 63) 0, none⟩, ⟨some 67, .extract (.tmp 63) 1, none⟩, ⟨some 68, .extract (.tmp 63) 2, none⟩, ⟨some 11, .assign (.tmp 66), none⟩, ⟨some 12, .assign (.tmp 67), none⟩, ⟨some 13, .assign (.tmp 68), none⟩]
@[go_sem ↓] def ur_law03_FrameNames_5 := @unI _ _ r_law03_FrameNames_5.eq_1
def r_law03_FrameNames_6 : List I := [⟨some 69, .move (.tmp 70), none⟩, ⟨some 71, .extract (.tmp 69) 0, none⟩, ⟨some 72, .extract (.tmp 69) 1, none⟩, ⟨some 73, .extract (.tmp 69) 2, none⟩, ⟨some 14, .assign (.tmp 71), none⟩, ⟨some 15, .assign (.tmp 72), none⟩, ⟨some 16, .assign (.tmp 73), none⟩]
@[go_sem ↓] def ur_law03_FrameNames_6 := @unI _ _ r_law03_FrameNames_6.eq_1
def r_law03_FrameNames_7 : List I := [⟨some 74, .move (.tmp 76), none⟩, ⟨some 77, .extract (.tmp 74) 0, none⟩, ⟨some 78, .extract (.tmp 74) 1, none⟩, ⟨some 79, .extract (.tmp 74) 2, none⟩, ⟨some 17, .assign (.tmp 77), none⟩, ⟨some 18, .assign (.tmp 78), none⟩, ⟨some 19, .assign (.tmp 79), none⟩]
@[go_sem ↓] def ur_law03_FrameNames_7 := @unI _ _ r_law03_FrameNames_7.eq_1
def r_law03_FrameNames_8 : List I := [⟨some 80, .move (.tmp 81), none⟩, ⟨some 82, .extract (.tmp 80) 0, none⟩, ⟨some 83, .extract (.tmp 80) 1, none⟩, ⟨some 20, .assign (.tmp 82), none⟩, ⟨some 21, .assign (.tmp 83), none⟩]
@[go_sem ↓] def ur_law03_FrameNames_8 := @unI _ _ r_law03_FrameNames_8.eq_1
def r_law03_FrameNames_9 : List I := [⟨some 84, .move (.tmp 88), none⟩, ⟨some 89, .extract (.tmp 84) 0, none⟩, ⟨some 90, .extract (.tmp 84) 1, none⟩, ⟨some 22, .assign (.tmp 89), none⟩, ⟨some 23, .assign (.tmp 90), none⟩]
@[go_sem ↓] def ur_law03_FrameNames_9 := @unI _ _ r_law03_FrameNames_9.eq_1
def c_law03_FrameNames_10 : C := (.cond (.tmp 92) .skip (.exit 0))
@[go_sem ↓] def uc_law03_FrameNames_10 := @unC _ _ c_law03_FrameNames_10.eq_1
def c_law03_FrameNames_11 : C := (.seq (.reg ([⟨some 93, .move (.tmp 25), none⟩, ⟨some 94, .binOp .add 3 (.tmp 93) (.const (.int .i64 1)) 3, none⟩, ⟨some 25, .assign (.tmp 94), none⟩])) (.keep [2, 4, 6, 7, 8, 9, 10, 11, 12, 13, 14, 15, 16, 19, 20, 21, 23, 24, 25]))
@[go_sem ↓] def uc_law03_FrameNames_11 := @unC _ _ c_law03_FrameNames_11.eq_1
def c_law03_FrameNames_12 : C := (.seq (.block 1 (.seq (.reg ([⟨some 95, .move (.tmp 24), none⟩, ⟨some 96, .move (.tmp 25), none⟩, ⟨some 97, .makeSlice 22 (.const (.int .i64 988)) (.const (.int .i64 988)), none⟩, ⟨some 98, .build 51 #[(0, (.tmp 96)), (1, (.tmp 97))], none⟩, ⟨some 99, .buildSlice 40 1 #[(0, (.tmp 98))], none⟩, ⟨some 100, .call { callee := .builtin .append, args := #[(.tmp 95), (.tmp 99)], argTypes := #[40, 40] }, none⟩, ⟨some 24, .assign (.tmp 100), none⟩])) (.keep [2, 4, 6, 7, 8, 9, 10, 11, 12, 13, 14, 15, 16, 19, 20, 21, 23, 24, 25]))) c_law03_FrameNames_11)
@[go_sem ↓] def uc_law03_FrameNames_12 := @unC _ _ c_law03_FrameNames_12.eq_1
def c_law03_FrameNames_13 : C := (.seq (.seq (.seq (.reg ([⟨some 91, .move (.tmp 25), none⟩, ⟨some 92, .binOp .lss 3 (.tmp 91) (.const (.int .i64 20)) 3, none⟩])) (.keep [2, 4, 6, 7, 8, 9, 10, 11, 12, 13, 14, 15, 16, 19, 20, 21, 23, 24, 25, 92])) c_law03_FrameNames_10) c_law03_FrameNames_12)
@[go_sem ↓] def uc_law03_FrameNames_13 := @unC _ _ c_law03_FrameNames_13.eq_1
def c_law03_FrameNames_14 : C := (.block 0 (.loop [(24, 2)] [2, 4, 6, 7, 8, 9, 10, 11, 12, 13, 14, 15, 16, 19, 20, 21, 23, 24, 25] c_law03_FrameNames_13))
@[go_sem ↓] def uc_law03_FrameNames_14 := @unC _ _ c_law03_FrameNames_14.eq_1
def r_law03_FrameNames_15 : List I := [⟨some 101, .move (.tmp 103), none⟩, ⟨some 104, .extract (.tmp 101) 0, none⟩, ⟨some 105, .extract (.tmp 101) 1, none⟩, ⟨some 26, .assign (.tmp 104), none⟩, ⟨some 27, .assign (.tmp 105), none⟩]
@[go_sem ↓] def ur_law03_FrameNames_15 := @unI _ _ r_law03_FrameNames_15.eq_1
def r_law03_FrameNames_16 : List I := [⟨some 106, .move (.tmp 111), none⟩, ⟨some 112, .extract (.tmp 106) 0, none⟩, ⟨some 113, .extract (.tmp 106) 1, none⟩, ⟨some 28, .assign (.tmp 112), none⟩, ⟨some 29, .assign (.tmp 113), none⟩]
@[go_sem ↓] def ur_law03_FrameNames_16 := @unI _ _ r_law03_FrameNames_16.eq_1
def r_law03_FrameNames_17 : List I := [⟨some 114, .move (.tmp 116), none⟩, ⟨some 117, .extract (.tmp 114) 0, none⟩, ⟨some 118, .extract (.tmp 114) 1, none⟩, ⟨some 119, .extract (.tmp 114) 2, none⟩, ⟨some 30, .assign (.tmp 117), none⟩, ⟨some 31, .assign (.tmp 118), none⟩, ⟨some 32, .assign (.tmp 119), none⟩]
@[go_sem ↓] def ur_law03_FrameNames_17 := @unI _ _ r_law03_FrameNames_17.eq_1
def r_law03_FrameNames_18 : List I := [⟨some 120, .move (.tmp 124), none⟩, ⟨some 125, .extract (.tmp 120) 0, none⟩, ⟨some 126, .extract (.tmp 120) 1, none⟩, ⟨some 33, .assign (.tmp 125), none⟩, ⟨some 34, .assign (.tmp 126), none⟩]
@[go_sem ↓] def ur_law03_FrameNames_18 := @unI _ _ r_law03_FrameNames_18.eq_1
def r_law03_FrameNames_19 : List I := ⟨some 123, .buildSlice 40 2 #[(0, (.tmp 121)), (1, (.tmp 122))], none⟩ :: ⟨some 124, .call { callee := .value (.func 40), args := #[(.tmp 123), (.const (.int .i64 26))], argTypes := #[40, 3] }, none⟩ :: r_law03_FrameNames_18
@[go_sem ↓] def ur_law03_FrameNames_19 := @unI _ _ r_law03_FrameNames_19.eq_1
def r_law03_FrameNames_20 : List I := ⟨some 122, .call { callee := .value (.func 41), args := #[(.const (.int .i64 2)), (.const (.int .u8 98))], argTypes := #[3, 5] }, none⟩ :: r_law03_FrameNames_19
@[go_sem ↓] def ur_law03_FrameNames_20 := @unI _ _ r_law03_FrameNames_20.eq_1
def r_law03_FrameNames_21 : List I := [⟨some 251, .pick (.tmp 249) (.tmp 250) (.const (.bool false)), none⟩, ⟨some 0, .assign (.tmp 251), none⟩]
@[go_sem ↓] def ur_law03_FrameNames_21 := @unI _ _ r_law03_FrameNames_21.eq_1
def c_law03_FrameNames_22 : C := (.seq (.seq (.reg (⟨some 182, .move (.const (.bool true)), none⟩ :: ⟨some 183, .move (.tmp 35), some (182, true)⟩ :: ⟨some 184, .pick (.tmp 182) (.tmp 183) (.const (.bool false)), none⟩ :: ⟨some 185, .move (.tmp 184), none⟩ :: ⟨some 186, .move (.tmp 16), some (185, true)⟩ :: ⟨some 187, .binOp .eql 25 (.tmp 186) (.const (.int .i64 0)) 25, some (185, true)⟩ :: ⟨some 188, .pick (.tmp 185) (.tmp 187) (.const (.bool false)), none⟩ :: ⟨some 189, .move (.tmp 188), none⟩ :: ⟨some 190, .move (.tmp 14), some (189, true)⟩ :: ⟨some 191, .call { callee := .builtin .len, args := #[(.tmp 190)], argTypes := #[40] }, some (189, true)⟩ :: ⟨some 192, .binOp .eql 3 (.tmp 191) (.const (.int .i64 0)) 3, some (189, true)⟩ :: ⟨some 193, .pick (.tmp 189) (.tmp 192) (.const (.bool false)), none⟩ :: ⟨some 194, .move (.tmp 193), none⟩ :: ⟨some 195, .move (.tmp 15), some (194, true)⟩ :: ⟨some 196, .binOp .eql 3 (.tmp 195) (.const (.int .i64 0)) 3, some (194, true)⟩ :: ⟨some 197, .pick (.tmp 194) (.tmp 196) (.const (.bool false)), none⟩ :: ⟨some 198, .move (.tmp 197), none⟩ :: ⟨some 199, .move (.tmp 19), some (198, true)⟩ :: ⟨some 200, .binOp .eql 25 (.tmp 199) (.const (.int .i64 4)) 25, some (198, true)⟩ :: ⟨some 201, .pick (.tmp 198) (.tmp 200) (.const (.bool false)), none⟩ :: ⟨some 202, .move (.tmp 201), none⟩ :: ⟨some 203, .move (.tmp 21), some (202, true)⟩ :: ⟨some 204, .binOp .eql 25 (.tmp 203) (.const (.int .i64 0)) 25, some (202, true)⟩ :: ⟨some 205, .pick (.tmp 202) (.tmp 204) (.const (.bool false)), none⟩ :: ⟨some 206, .move (.tmp 205), none⟩ :: ⟨some 207, .move (.tmp 20), some (206, true)⟩ :: ⟨some 208, .call { callee := .builtin .len, args := #[(.tmp 207)], argTypes := #[22] }, some (206, true)⟩ :: ⟨some 209, .binOp .eql 3 (.tmp 208) (.const (.int .i64 0)) 3, some (206, true)⟩ :: ⟨some 210, .pick (.tmp 206) (.tmp 209) (.const (.bool false)), none⟩ :: ⟨some 211, .move (.tmp 210), none⟩ :: ⟨some 212, .move (.tmp 23), some (211, true)⟩ :: ⟨some 213, .binOp .eql 25 (.tmp 212) (.const (.int .i64 8)) 25, some (211, true)⟩ :: ⟨some 214, .pick (.tmp 211) (.tmp 213) (.const (.bool false)), none⟩ :: ⟨some 215, .move (.tmp 214), none⟩ :: ⟨some 216, .move (.tmp 27), some (215, true)⟩ :: ⟨some 217, .binOp .eql 25 (.tmp 216) (.const (.int .i64 0)) 25, some (215, true)⟩ :: ⟨some 218, .pick (.tmp 215) (.tmp 217) (.const (.bool false)), none⟩ :: ⟨some 219, .move (.tmp 218), none⟩ :: ⟨some 220, .move (.tmp 26), some (219, true)⟩ :: ⟨some 221, .call { callee := .builtin .len, args := #[(.tmp 220)], argTypes := #[22] }, some (219, true)⟩ :: ⟨some 222, .binOp .eql 3 (.tmp 221) (.const (.int .i64 20000)) 3, some (219, true)⟩ :: ⟨some 223, .pick (.tmp 219) (.tmp 222) (.const (.bool false)), none⟩ :: ⟨some 224, .move (.tmp 223), none⟩ :: ⟨some 225, .move (.tmp 29), some (224, true)⟩ :: ⟨some 226, .binOp .eql 25 (.tmp 225) (.const (.int .i64 4)) 25, some (224, true)⟩ :: ⟨some 227, .pick (.tmp 224) (.tmp 226) (.const (.bool false)), none⟩ :: ⟨some 228, .move (.tmp 227), none⟩ :: ⟨some 229, .move (.tmp 32), some (228, true)⟩ :: ⟨some 230, .binOp .eql 25 (.tmp 229) (.const (.int .i64 0)) 25, some (228, true)⟩ :: ⟨some 231, .pick (.tmp 228) (.tmp 230) (.const (.bool false)), none⟩ :: ⟨some 232, .move (.tmp 231), none⟩ :: ⟨some 233, .move (.tmp 30), some (232, true)⟩ :: ⟨some 234, .call { callee := .builtin .len, args := #[(.tmp 233)], argTypes := #[40] }, some (232, true)⟩ :: ⟨some 235, .binOp .eql 3 (.tmp 234) (.const (.int .i64 0)) 3, some (232, true)⟩ :: ⟨some 236, .pick (.tmp 232) (.tmp 235) (.const (.bool false)), none⟩ :: ⟨some 237, .move (.tmp 236), none⟩ :: ⟨some 238, .move (.tmp 31), some (237, true)⟩ :: ⟨some 239, .binOp .eql 3 (.tmp 238) (.const (.int .i64 0)) 3, some (237, true)⟩ :: ⟨some 240, .pick (.tmp 237) (.tmp 239) (.const (.bool false)), none⟩ :: ⟨some 241, .move (.tmp 240), none⟩ :: ⟨some 242, .move (.tmp 33), some (241, true)⟩ :: ⟨some 243, .binOp .eql 3 (.tmp 242) (.const (.int .i64 1)) 3, some (241, true)⟩ :: ⟨some 244, .pick (.tmp 241) (.tmp 243) (.const (.bool false)), none⟩ :: ⟨some 245, .move (.tmp 244), none⟩ :: ⟨some 246, .move (.tmp 34), some (245, true)⟩ :: ⟨some 247, .binOp .eql 3 (.tmp 246) (.const (.int .i64 13)) 3, some (245, true)⟩ :: ⟨some 248, .pick (.tmp 245) (.tmp 247) (.const (.bool false)), none⟩ :: ⟨some 249, .move (.tmp 248), none⟩ :: ⟨some 250, .call { callee := .value (.func 38), args := #[], argTypes := #[] }, some (249, true)⟩ :: r_law03_FrameNames_21)) (.keep [0])) .ret)
@[go_sem ↓] def uc_law03_FrameNames_22 := @unC _ _ c_law03_FrameNames_22.eq_1
def c_law03_FrameNames_23 : C := (.seq (.seq (.reg ([⟨some 127, .move (.tmp 2), none⟩, ⟨some 128, .binOp .eql 25 (.tmp 127) (.const (.int .i64 8)) 25, none⟩, ⟨some 129, .move (.tmp 128), none⟩, ⟨some 130, .move (.tmp 4), some (129, true)⟩, ⟨some 131, .binOp .eql 25 (.tmp 130) (.const (.int .i64 8)) 25, some (129, true)⟩, ⟨some 132, .pick (.tmp 129) (.tmp 131) (.const (.bool false)), none⟩, ⟨some 133, .move (.tmp 132), none⟩, ⟨some 134, .move (.tmp 6), some (133, true)⟩, ⟨some 135, .binOp .eql 25 (.tmp 134) (.const (.int .i64 8)) 25, some (133, true)⟩, ⟨some 136, .pick (.tmp 133) (.tmp 135) (.const (.bool false)), none⟩, ⟨some 137, .move (.tmp 136), none⟩, ⟨some 138, .move (.tmp 8), some (137, true)⟩, ⟨some 139, .binOp .eql 25 (.tmp 138) (.const (.int .i64 0)) 25, some (137, true)⟩, ⟨some 140, .pick (.tmp 137) (.tmp 139) (.const (.bool false)), none⟩, ⟨some 141, .move (.tmp 140), none⟩, ⟨some 142, .move (.tmp 7), some (141, true)⟩, ⟨some 143, .binOp .eql 3 (.tmp 142) (.const (.int .i64 1012)) 3, some (141, true)⟩, ⟨some 144, .pick (.tmp 141) (.tmp 143) (.const (.bool false)), none⟩, ⟨some 145, .move (.tmp 144), none⟩, ⟨some 146, .move (.tmp 10), some (145, true)⟩, ⟨some 147, .binOp .eql 25 (.tmp 146) (.const (.int .i64 0)) 25, some (145, true)⟩, ⟨some 148, .pick (.tmp 145) (.tmp 147) (.const (.bool false)), none⟩, ⟨some 149, .move (.tmp 148), none⟩, ⟨some 150, .move (.tmp 9), some (149, true)⟩, ⟨some 151, .call { callee := .builtin .len, args := #[(.tmp 150)], argTypes := #[22] }, some (149, true)⟩, ⟨some 152, .binOp .eql 3 (.tmp 151) (.const (.int .i64 12)) 3, some (149, true)⟩, ⟨some 153, .pick (.tmp 149) (.tmp 152) (.const (.bool false)), none⟩, ⟨some 154, .move (.tmp 153), none⟩, ⟨some 155, .move (.tmp 13), some (154, true)⟩, ⟨some 156, .binOp .eql 25 (.tmp 155) (.const (.int .i64 0)) 25, some (154, true)⟩, ⟨some 157, .pick (.tmp 154) (.tmp 156) (.const (.bool false)), none⟩, ⟨some 158, .move (.tmp 157), none⟩, ⟨some 159, .move (.tmp 11), some (158, true)⟩, ⟨some 160, .call { callee := .builtin .len, args := #[(.tmp 159)], argTypes := #[40] }, some (158, true)⟩, ⟨some 161, .binOp .eql 3 (.tmp 160) (.const (.int .i64 1)) 3, some (158, true)⟩, ⟨some 162, .pick (.tmp 158) (.tmp 161) (.const (.bool false)), none⟩, ⟨some 163, .move (.tmp 162), none⟩, ⟨some 164, .move (.tmp 12), some (163, true)⟩, ⟨some 165, .binOp .eql 3 (.tmp 164) (.const (.int .i64 12)) 3, some (163, true)⟩, ⟨some 166, .pick (.tmp 163) (.tmp 165) (.const (.bool false)), none⟩, ⟨some 167, .move (.tmp 166), none⟩, ⟨some 168, .move (.tmp 11), some (167, true)⟩, ⟨some 169, .indexAddr 40 (.tmp 168) (.const (.int .i64 0)), some (167, true)⟩, ⟨some 170, .fieldAddr 51 (.tmp 169) 0, some (167, true)⟩, ⟨some 171, .load 3 (.tmp 170), some (167, true)⟩, ⟨some 172, .binOp .eql 3 (.tmp 171) (.const (.int .i64 0)) 3, some (167, true)⟩, ⟨some 173, .pick (.tmp 167) (.tmp 172) (.const (.bool false)), none⟩, ⟨some 174, .move (.tmp 173), none⟩, ⟨some 175, .move (.tmp 11), some (174, true)⟩, ⟨some 176, .indexAddr 40 (.tmp 175) (.const (.int .i64 0)), some (174, true)⟩, ⟨some 177, .fieldAddr 51 (.tmp 176) 1, some (174, true)⟩, ⟨some 178, .load 22 (.tmp 177), some (174, true)⟩, ⟨some 179, .call { callee := .builtin .len, args := #[(.tmp 178)], argTypes := #[22] }, some (174, true)⟩, ⟨some 180, .binOp .eql 3 (.tmp 179) (.const (.int .i64 0)) 3, some (174, true)⟩, ⟨some 181, .pick (.tmp 174) (.tmp 180) (.const (.bool false)), none⟩, ⟨some 35, .assign (.tmp 181), none⟩])) (.keep [14, 15, 16, 19, 20, 21, 23, 26, 27, 29, 30, 31, 32, 33, 34, 35])) c_law03_FrameNames_22)
@[go_sem ↓] def uc_law03_FrameNames_23 := @unC _ _ c_law03_FrameNames_23.eq_1
def c_law03_FrameNames_24 : C := (.seq (.seq (.reg (⟨some 121, .call { callee := .value (.func 41), args := #[(.const (.int .i64 2)), (.const (.int .u8 97))], argTypes := #[3, 5] }, none⟩ :: r_law03_FrameNames_20)) (.keep [2, 4, 6, 7, 8, 9, 10, 11, 12, 13, 14, 15, 16, 19, 20, 21, 23, 26, 27, 29, 30, 31, 32, 33, 34])) c_law03_FrameNames_23)
@[go_sem ↓] def uc_law03_FrameNames_24 := @unC _ _ c_law03_FrameNames_24.eq_1
def c_law03_FrameNames_25 : C := (.seq (.seq (.reg (⟨some 115, .makeSlice 22 (.const (.int .i64 24)) (.const (.int .i64 24)), none⟩ :: ⟨some 116, .call { callee := .value (.func 24), args := #[(.tmp 115)], argTypes := #[22] }, none⟩ :: r_law03_FrameNames_17)) (.keep [2, 4, 6, 7, 8, 9, 10, 11, 12, 13, 14, 15, 16, 19, 20, 21, 23, 26, 27, 29, 30, 31, 32])) c_law03_FrameNames_24)
@[go_sem ↓] def uc_law03_FrameNames_25 := @unC _ _ c_law03_FrameNames_25.eq_1
def c_law03_FrameNames_26 : C := (.seq (.seq (.reg (⟨some 107, .move (.tmp 24), none⟩ :: ⟨some 108, .build 51 #[], none⟩ :: ⟨some 109, .buildSlice 40 1 #[(0, (.tmp 108))], none⟩ :: ⟨some 110, .call { callee := .builtin .append, args := #[(.tmp 107), (.tmp 109)], argTypes := #[40, 40] }, none⟩ :: ⟨some 111, .call { callee := .value (.func 34), args := #[(.tmp 110)], argTypes := #[40] }, none⟩ :: r_law03_FrameNames_16)) (.keep [2, 4, 6, 7, 8, 9, 10, 11, 12, 13, 14, 15, 16, 19, 20, 21, 23, 26, 27, 29])) c_law03_FrameNames_25)
@[go_sem ↓] def uc_law03_FrameNames_26 := @unC _ _ c_law03_FrameNames_26.eq_1
def c_law03_FrameNames_27 : C := (.seq (.seq (.reg (⟨some 102, .move (.tmp 24), none⟩ :: ⟨some 103, .call { callee := .value (.func 34), args := #[(.tmp 102)], argTypes := #[40] }, none⟩ :: r_law03_FrameNames_15)) (.keep [2, 4, 6, 7, 8, 9, 10, 11, 12, 13, 14, 15, 16, 19, 20, 21, 23, 24, 26, 27])) c_law03_FrameNames_26)
@[go_sem ↓] def uc_law03_FrameNames_27 := @unC _ _ c_law03_FrameNames_27.eq_1
def c_law03_FrameNames_28 : C := (.seq (.seq (.seq (.reg ([⟨some 25, .assign (.const (.int .i64 0)), none⟩])) (.keep [2, 4, 6, 7, 8, 9, 10, 11, 12, 13, 14, 15, 16, 19, 20, 21, 23, 24, 25])) c_law03_FrameNames_14) c_law03_FrameNames_27)
@[go_sem ↓] def uc_law03_FrameNames_28 := @unC _ _ c_law03_FrameNames_28.eq_1
def c_law03_FrameNames_29 : C := (.seq (.seq (.reg ([⟨some 24, .assign (.const (.slice none 0 0)), none⟩])) (.keep [2, 4, 6, 7, 8, 9, 10, 11, 12, 13, 14, 15, 16, 19, 20, 21, 23, 24])) c_law03_FrameNames_28)
@[go_sem ↓] def uc_law03_FrameNames_29 := @unC _ _ c_law03_FrameNames_29.eq_1
def c_law03_FrameNames_30 : C := (.seq (.seq (.reg (⟨some 85, .build 51 #[], none⟩ :: ⟨some 86, .build 51 #[(0, (.const (.int .i64 (-1))))], none⟩ :: ⟨some 87, .buildSlice 40 2 #[(0, (.tmp 85)), (1, (.tmp 86))], none⟩ :: ⟨some 88, .call { callee := .value (.func 34), args := #[(.tmp 87)], argTypes := #[40] }, none⟩ :: r_law03_FrameNames_9)) (.keep [2, 4, 6, 7, 8, 9, 10, 11, 12, 13, 14, 15, 16, 19, 20, 21, 23])) c_law03_FrameNames_29)
@[go_sem ↓] def uc_law03_FrameNames_30 := @unC _ _ c_law03_FrameNames_30.eq_1
def c_law03_FrameNames_31 : C := (.seq (.seq (.reg (⟨some 81, .call { callee := .value (.func 34), args := #[(.const (.slice none 0 0))], argTypes := #[40] }, none⟩ :: r_law03_FrameNames_8)) (.keep [2, 4, 6, 7, 8, 9, 10, 11, 12, 13, 14, 15, 16, 19, 20, 21])) c_law03_FrameNames_30)
@[go_sem ↓] def uc_law03_FrameNames_31 := @unC _ _ c_law03_FrameNames_31.eq_1
def c_law03_FrameNames_32 : C := (.seq (.seq (.reg (⟨some 75, .makeSlice 22 (.const (.int .i64 20001)) (.const (.int .i64 20001)), none⟩ :: ⟨some 76, .call { callee := .value (.func 24), args := #[(.tmp 75)], argTypes := #[22] }, none⟩ :: r_law03_FrameNames_7)) (.keep [2, 4, 6, 7, 8, 9, 10, 11, 12, 13, 14, 15, 16, 19])) c_law03_FrameNames_31)
@[go_sem ↓] def uc_law03_FrameNames_32 := @unC _ _ c_law03_FrameNames_32.eq_1
def c_law03_FrameNames_33 : C := (.seq (.seq (.reg (⟨some 70, .call { callee := .value (.func 24), args := #[(.const (.slice none 0 0))], argTypes := #[22] }, none⟩ :: r_law03_FrameNames_6)) (.keep [2, 4, 6, 7, 8, 9, 10, 11, 12, 13, 14, 15, 16])) c_law03_FrameNames_32)
@[go_sem ↓] def uc_law03_FrameNames_33 := @unC _ _ c_law03_FrameNames_33.eq_1
def c_law03_FrameNames_34 : C := (.seq (.seq (.reg (⟨some 64, .move (.tmp 9), none⟩ :: ⟨some 65, .call { callee := .value (.func 24), args := #[(.tmp 64)], argTypes := #[22] }, none⟩ :: r_law03_FrameNames_5)) (.keep [2, 4, 6, 7, 8, 9, 10, 11, 12, 13])) c_law03_FrameNames_33)
@[go_sem ↓] def uc_law03_FrameNames_34 := @unC _ _ c_law03_FrameNames_34.eq_1
def c_law03_FrameNames_35 : C := (.seq (.seq (.reg (⟨some 59, .build 51 #[], none⟩ :: ⟨some 60, .call { callee := .value (.func 32), args := #[(.tmp 59)], argTypes := #[51] }, none⟩ :: r_law03_FrameNames_4)) (.keep [2, 4, 6, 7, 8, 9, 10])) c_law03_FrameNames_34)
@[go_sem ↓] def uc_law03_FrameNames_35 := @unC _ _ c_law03_FrameNames_35.eq_1
def c_law03_FrameNames_36 : C := (.seq (.seq (.reg (⟨some 53, .makeSlice 22 (.const (.int .i64 1000)) (.const (.int .i64 1000)), none⟩ :: ⟨some 54, .build 51 #[(0, (.const (.int .i64 1000000000))), (1, (.tmp 53))], none⟩ :: ⟨some 55, .call { callee := .value (.func 30), args := #[(.tmp 54)], argTypes := #[51] }, none⟩ :: r_law03_FrameNames_3)) (.keep [2, 4, 6, 7, 8])) c_law03_FrameNames_35)
@[go_sem ↓] def uc_law03_FrameNames_36 := @unC _ _ c_law03_FrameNames_36.eq_1
def c_law03_FrameNames_37 : C := (.seq (.seq (.reg (⟨some 47, .makeSlice 22 (.const (.int .i64 1001)) (.const (.int .i64 1001)), none⟩ :: ⟨some 48, .build 51 #[(1, (.tmp 47))], none⟩ :: ⟨some 49, .call { callee := .value (.func 32), args := #[(.tmp 48)], argTypes := #[51] }, none⟩ :: r_law03_FrameNames_2)) (.keep [2, 4, 6])) c_law03_FrameNames_36)
@[go_sem ↓] def uc_law03_FrameNames_37 := @unC _ _ c_law03_FrameNames_37.eq_1
def c_law03_FrameNames_38 : C := (.seq (.seq (.reg (⟨some 42, .build 51 #[(0, (.const (.int .i64 1000000001)))], none⟩ :: ⟨some 43, .call { callee := .value (.func 30), args := #[(.tmp 42)], argTypes := #[51] }, none⟩ :: r_law03_FrameNames_1)) (.keep [2, 4])) c_law03_FrameNames_37)
@[go_sem ↓] def uc_law03_FrameNames_38 := @unC _ _ c_law03_FrameNames_38.eq_1
def c_law03_FrameNames_39 : C := (.seq (.seq (.reg (⟨some 37, .build 51 #[(0, (.const (.int .i64 (-1))))], none⟩ :: ⟨some 38, .call { callee := .value (.func 30), args := #[(.tmp 37)], argTypes := #[51] }, none⟩ :: r_law03_FrameNames_0)) (.keep [2])) c_law03_FrameNames_38)
@[go_sem ↓] def uc_law03_FrameNames_39 := @unC _ _ c_law03_FrameNames_39.eq_1
def c_law03_FrameNames : C := (.seq (.seq (.reg ([⟨some 0, .assign (.const (.bool false)), none⟩])) (.keep [])) c_law03_FrameNames_39)
attribute [go_sem ↓] c_law03_FrameNames
def h_law03_FrameNames : List Hint := [⟨[], [], []⟩, ⟨[], [2], []⟩, ⟨[], [2, 4], []⟩, ⟨[], [2, 4, 6], []⟩, ⟨[], [2, 4, 6, 7, 8], []⟩, ⟨[], [2, 4, 6, 7, 8, 9, 10], []⟩, ⟨[], [2, 4, 6, 7, 8, 9, 10, 11, 12, 13], []⟩, ⟨[], [2, 4, 6, 7, 8, 9, 10, 11, 12, 13, 14, 15, 16], []⟩, ⟨[], [2, 4, 6, 7, 8, 9, 10, 11, 12, 13, 14, 15, 16, 19], []⟩, ⟨[], [2, 4, 6, 7, 8, 9, 10, 11, 12, 13, 14, 15, 16, 19, 20, 21], []⟩, ⟨[], [2, 4, 6, 7, 8, 9, 10, 11, 12, 13, 14, 15, 16, 19, 20, 21, 23], []⟩, ⟨[], [2, 4, 6, 7, 8, 9, 10, 11, 12, 13, 14, 15, 16, 19, 20, 21, 23, 24], []⟩, ⟨[], [2, 4, 6, 7, 8, 9, 10, 11, 12, 13, 14, 15, 16, 19, 20, 21, 23, 24, 25], []⟩, ⟨[(24, 2)], [2, 4, 6, 7, 8, 9, 10, 11, 12, 13, 14, 15, 16, 19, 20, 21, 23, 24, 25], []⟩, ⟨[], [2, 4, 6, 7, 8, 9, 10, 11, 12, 13, 14, 15, 16, 19, 20, 21, 23, 24, 25, 92], []⟩, ⟨[], [2, 4, 6, 7, 8, 9, 10, 11, 12, 13, 14, 15, 16, 19, 20, 21, 23, 24, 25], []⟩, ⟨[], [2, 4, 6, 7, 8, 9, 10, 11, 12, 13, 14, 15, 16, 19, 20, 21, 23, 24, 25], []⟩, ⟨[], [2, 4, 6, 7, 8, 9, 10, 11, 12, 13, 14, 15, 16, 19, 20, 21, 23, 24, 26, 27], []⟩, ⟨[], [2, 4, 6, 7, 8, 9, 10, 11, 12, 13, 14, 15, 16, 19, 20, 21, 23, 26, 27, 29], []⟩, ⟨[], [2, 4, 6, 7, 8, 9, 10, 11, 12, 13, 14, 15, 16, 19, 20, 21, 23, 26, 27, 29, 30, 31, 32], []⟩, ⟨[], [2, 4, 6, 7, 8, 9, 10, 11, 12, 13, 14, 15, 16, 19, 20, 21, 23, 26, 27, 29, 30, 31, 32, 33, 34], []⟩, ⟨[], [14, 15, 16, 19, 20, 21, 23, 26, 27, 29, 30, 31, 32, 33, 34, 35], []⟩, ⟨[], [0], []⟩]
theorem b_law03_FrameNames : Body Try.prog 13 [] h_law03_FrameNames c_law03_FrameNames 252 [.tmp 0] := body_of Try.func13 (by kernel_rfl) (by kernel_rfl) (by kernel_rfl) (by kernel_rfl)
def r_law03_alive_0 : List I := [⟨some 9, .move (.tmp 11), none⟩, ⟨some 12, .extract (.tmp 9) 0, none⟩, ⟨some 13, .extract (.tmp 9) 1, none⟩, ⟨some 1, .assign (.tmp 12), none⟩, ⟨some 2, .assign (.tmp 13), none⟩]
@[go_sem ↓] def ur_law03_alive_0 := @unI _ _ r_law03_alive_0.eq_1
def r_law03_alive_1 : List I := ⟨some 11, .call { callee := .value (.func 32), args := #[(.tmp 10)], argTypes := #[51] }, none⟩ :: r_law03_alive_0
@[go_sem ↓] def ur_law03_alive_1 := @unI _ _ r_law03_alive_1.eq_1
def c_law03_alive_2 : C := (.seq (.seq (.reg ([⟨some 0, .assign (.const (.bool false)), none⟩])) (.keep [0])) .ret)
@[go_sem ↓] def uc_law03_alive_2 := @unC _ _ c_law03_alive_2.eq_1
def c_law03_alive_3 : C := (.cond (.tmp 38) c_law03_alive_2 .skip)
@[go_sem ↓] def uc_law03_alive_3 := @unC _ _ c_law03_alive_3.eq_1
def r_law03_alive_4 : List I := [⟨some 39, .move (.tmp 43), none⟩, ⟨some 44, .extract (.tmp 39) 0, none⟩, ⟨some 45, .extract (.tmp 39) 1, none⟩, ⟨some 3, .assign (.tmp 44), none⟩, ⟨some 4, .assign (.tmp 45), none⟩]
@[go_sem ↓] def ur_law03_alive_4 := @unI _ _ r_law03_alive_4.eq_1
def r_law03_alive_5 : List I := ⟨some 42, .buildSlice 40 2 #[(0, (.tmp 40)), (1, (.tmp 41))], none⟩ :: ⟨some 43, .call { callee := .value (.func 40), args := #[(.tmp 42), (.const (.int .i64 26))], argTypes := #[40, 3] }, none⟩ :: r_law03_alive_4
@[go_sem ↓] def ur_law03_alive_5 := @unI _ _ r_law03_alive_5.eq_1
def r_law03_alive_6 : List I := ⟨some 41, .call { callee := .value (.func 41), args := #[(.const (.int .i64 2)), (.const (.int .u8 98))], argTypes := #[3, 5] }, none⟩ :: r_law03_alive_5
@[go_sem ↓] def ur_law03_alive_6 := @unI _ _ r_law03_alive_6.eq_1
def r_law03_alive_7 : List I := [⟨some 46, .move (.tmp 50), none⟩, ⟨some 51, .extract (.tmp 46) 0, none⟩, ⟨some 52, .extract (.tmp 46) 1, none⟩, ⟨some 5, .assign (.tmp 51), none⟩, ⟨some 6, .assign (.tmp 52), none⟩]
@[go_sem ↓] def ur_law03_alive_7 := @unI _ _ r_law03_alive_7.eq_1
def r_law03_alive_8 : List I := ⟨some 49, .buildSlice 40 2 #[(0, (.tmp 47)), (1, (.tmp 48))], none⟩ :: ⟨some 50, .call { callee := .value (.func 40), args := #[(.tmp 49), (.const (.int .i64 26))], argTypes := #[40, 3] }, none⟩ :: r_law03_alive_7
@[go_sem ↓] def ur_law03_alive_8 := @unI _ _ r_law03_alive_8.eq_1
def r_law03_alive_9 : List I := ⟨some 48, .call { callee := .value (.func 41), args := #[(.const (.int .i64 3)), (.const (.int .u8 98))], argTypes := #[3, 5] }, none⟩ :: r_law03_alive_8
@[go_sem ↓] def ur_law03_alive_9 := @unI _ _ r_law03_alive_9.eq_1
def r_law03_alive_10 : List I := [⟨some 53, .move (.tmp 57), none⟩, ⟨some 58, .extract (.tmp 53) 0, none⟩, ⟨some 59, .extract (.tmp 53) 1, none⟩, ⟨some 7, .assign (.tmp 58), none⟩, ⟨some 8, .assign (.tmp 59), none⟩]
@[go_sem ↓] def ur_law03_alive_10 := @unI _ _ r_law03_alive_10.eq_1
def r_law03_alive_11 : List I := ⟨some 56, .buildSlice 40 2 #[(0, (.tmp 54)), (1, (.tmp 55))], none⟩ :: ⟨some 57, .call { callee := .value (.func 40), args := #[(.tmp 56), (.const (.int .i64 25))], argTypes := #[40, 3] }, none⟩ :: r_law03_alive_10
@[go_sem ↓] def ur_law03_alive_11 := @unI _ _ r_law03_alive_11.eq_1
def r_law03_alive_12 : List I := ⟨some 55, .call { callee := .value (.func 41), args := #[(.const (.int .i64 2)), (.const (.int .u8 98))], argTypes := #[3, 5] }, none⟩ :: r_law03_alive_11
@[go_sem ↓] def ur_law03_alive_12 := @unI _ _ r_law03_alive_12.eq_1
def c_law03_alive_13 : C := (.seq (.seq (.reg ([⟨some 60, .move (.tmp 3), none⟩, ⟨some 61, .binOp .eql 3 (.tmp 60) (.const (.int .i64 2)) 3, none⟩, ⟨some 62, .move (.tmp 61), none⟩, ⟨some 63, .move (.tmp 4), some (62, true)⟩, ⟨some 64, .binOp .eql 3 (.tmp 63) (.const (.int .i64 26)) 3, some (62, true)⟩, ⟨some 65, .pick (.tmp 62) (.tmp 64) (.const (.bool false)), none⟩, ⟨some 66, .move (.tmp 65), none⟩, ⟨some 67, .move (.tmp 5), some (66, true)⟩, ⟨some 68, .binOp .eql 3 (.tmp 67) (.const (.int .i64 1)) 3, some (66, true)⟩, ⟨some 69, .pick (.tmp 66) (.tmp 68) (.const (.bool false)), none⟩, ⟨some 70, .move (.tmp 69), none⟩, ⟨some 71, .move (.tmp 6), some (70, true)⟩, ⟨some 72, .binOp .eql 3 (.tmp 71) (.const (.int .i64 13)) 3, some (70, true)⟩, ⟨some 73, .pick (.tmp 70) (.tmp 72) (.const (.bool false)), none⟩, ⟨some 74, .move (.tmp 73), none⟩, ⟨some 75, .move (.tmp 7), some (74, true)⟩, ⟨some 76, .binOp .eql 3 (.tmp 75) (.const (.int .i64 1)) 3, some (74, true)⟩, ⟨some 77, .pick (.tmp 74) (.tmp 76) (.const (.bool false)), none⟩, ⟨some 78, .move (.tmp 77), none⟩, ⟨some 79, .move (.tmp 8), some (78, true)⟩, ⟨some 80, .binOp .eql 3 (.tmp 79) (.const (.int .i64 13)) 3, some (78, true)⟩, ⟨some 81, .pick (.tmp 78) (.tmp 80) (.const (.bool false)), none⟩, ⟨some 0, .assign (.tmp 81), none⟩])) (.keep [0])) .ret)
@[go_sem ↓] def uc_law03_alive_13 := @unC _ _ c_law03_alive_13.eq_1
def c_law03_alive_14 : C := (.seq (.seq (.reg (⟨some 54, .call { callee := .value (.func 41), args := #[(.const (.int .i64 1)), (.const (.int .u8 97))], argTypes := #[3, 5] }, none⟩ :: r_law03_alive_12)) (.keep [3, 4, 5, 6, 7, 8])) c_law03_alive_13)
@[go_sem ↓] def uc_law03_alive_14 := @unC _ _ c_law03_alive_14.eq_1
def c_law03_alive_15 : C := (.seq (.seq (.reg (⟨some 47, .call { callee := .value (.func 41), args := #[(.const (.int .i64 1)), (.const (.int .u8 97))], argTypes := #[3, 5] }, none⟩ :: r_law03_alive_9)) (.keep [3, 4, 5, 6])) c_law03_alive_14)
@[go_sem ↓] def uc_law03_alive_15 := @unC _ _ c_law03_alive_15.eq_1
def c_law03_alive_16 : C := (.seq (.seq (.reg (⟨some 40, .call { callee := .value (.func 41), args := #[(.const (.int .i64 1)), (.const (.int .u8 97))], argTypes := #[3, 5] }, none⟩ :: r_law03_alive_6)) (.keep [3, 4])) c_law03_alive_15)
@[go_sem ↓] def uc_law03_alive_16 := @unC _ _ c_law03_alive_16.eq_1
def c_law03_alive_17 : C := (.seq (.seq (.seq (.reg ([⟨some 14, .move (.tmp 2), none⟩, ⟨some 15, .binOp .neq 25 (.tmp 14) (.const (.int .i64 0)) 25, none⟩, ⟨some 16, .move (.tmp 15), none⟩, ⟨some 17, .move (.tmp 1), some (16, false)⟩, ⟨some 18, .call { callee := .builtin .len, args := #[(.tmp 17)], argTypes := #[22] }, some (16, false)⟩, ⟨some 19, .binOp .neq 3 (.tmp 18) (.const (.int .i64 13)) 3, some (16, false)⟩, ⟨some 20, .pick (.tmp 16) (.const (.bool true)) (.tmp 19), none⟩, ⟨some 21, .move (.tmp 20), none⟩, ⟨some 22, .move (.tmp 1), some (21, false)⟩, ⟨some 23, .indexAddr 22 (.tmp 22) (.const (.int .i64 0)), some (21, false)⟩, ⟨some 24, .load 5 (.tmp 23), some (21, false)⟩, ⟨some 25, .binOp .neq 5 (.tmp 24) (.const (.int .u8 1)) 5, some (21, false)⟩, ⟨some 26, .pick (.tmp 21) (.const (.bool true)) (.tmp 25), none⟩, ⟨some 27, .move (.tmp 26), none⟩, ⟨some 28, .move (.tmp 1), some (27, false)⟩, ⟨some 29, .indexAddr 22 (.tmp 28) (.const (.int .i64 4)), some (27, false)⟩, ⟨some 30, .load 5 (.tmp 29), some (27, false)⟩, ⟨some 31, .binOp .neq 5 (.tmp 30) (.const (.int .u8 1)) 5, some (27, false)⟩, ⟨some 32, .pick (.tmp 27) (.const (.bool true)) (.tmp 31), none⟩, ⟨some 33, .move (.tmp 32), none⟩, ⟨some 34, .move (.tmp 1), some (33, false)⟩, ⟨some 35, .indexAddr 22 (.tmp 34) (.const (.int .i64 12)), some (33, false)⟩, ⟨some 36, .load 5 (.tmp 35), some (33, false)⟩, ⟨some 37, .binOp .neq 5 (.tmp 36) (.const (.int .u8 97)) 5, some (33, false)⟩, ⟨some 38, .pick (.tmp 33) (.const (.bool true)) (.tmp 37), none⟩])) (.keep [38])) c_law03_alive_3) c_law03_alive_16)
@[go_sem ↓] def uc_law03_alive_17 := @unC _ _ c_law03_alive_17.eq_1
def c_law03_alive_18 : C := (.seq (.seq (.reg (⟨some 10, .call { callee := .value (.func 41), args := #[(.const (.int .i64 1)), (.const (.int .u8 97))], argTypes := #[3, 5] }, none⟩ :: r_law03_alive_1)) (.keep [1, 2])) c_law03_alive_17)
@[go_sem ↓] def uc_law03_alive_18 := @unC _ _ c_law03_alive_18.eq_1
def c_law03_alive : C := (.seq (.seq (.reg ([⟨some 0, .assign (.const (.bool false)), none⟩])) (.keep [])) c_law03_alive_18)
attribute [go_sem ↓] c_law03_alive
def h_law03_alive : List Hint := [⟨[], [], []⟩, ⟨[], [1, 2], []⟩, ⟨[], [38], []⟩, ⟨[], [0], []⟩, ⟨[], [3, 4], []⟩, ⟨[], [3, 4, 5, 6], []⟩, ⟨[], [3, 4, 5, 6, 7, 8], []⟩, ⟨[], [0], []⟩]
theorem b_law03_alive : Body Try.prog 38 [] h_law03_alive c_law03_alive 82 [.tmp 0] := body_of Try.func38 (by kernel_rfl) (by kernel_rfl) (by kernel_rfl) (by kernel_rfl)
def c_law03_whole : C := (.seq (.seq (.reg ([⟨some 4, .assign (.const (.int .i64 0)), none⟩, ⟨some 5, .assign (.const (.int .i64 0)), none⟩])) (.keep [0, 1])) (.seq (.seq (.reg ([⟨some 6, .assign (.const (.int .i64 0)), none⟩])) (.keep [0, 1, 6])) (.seq (.seq (.seq (.reg ([⟨some 7, .assign (.const (.int .i64 0)), none⟩])) (.keep [0, 1, 6, 7])) (.block 0 (.loop [] [0, 1, 6, 7] (.seq (.seq (.seq (.reg ([⟨some 8, .move (.tmp 7), none⟩, ⟨some 9, .move (.tmp 0), none⟩, ⟨some 10, .call { callee := .builtin .len, args := #[(.tmp 9)], argTypes := #[40] }, none⟩, ⟨some 11, .binOp .lss 3 (.tmp 8) (.tmp 10) 3, none⟩])) (.keep [0, 1, 6, 7, 11])) (.cond (.tmp 11) .skip (.exit 0))) (.seq (.block 1 (.seq (.seq (.seq (.reg ([⟨some 14, .move (.tmp 6), none⟩, ⟨some 15, .binOp .add 3 (.tmp 14) (.const (.int .i64 12)) 3, none⟩, ⟨some 16, .move (.tmp 0), none⟩, ⟨some 17, .move (.tmp 7), none⟩, ⟨some 18, .indexAddr 40 (.tmp 16) (.tmp 17), none⟩, ⟨some 19, .fieldAddr 51 (.tmp 18) 1, none⟩, ⟨some 20, .load 22 (.tmp 19), none⟩, ⟨some 21, .call { callee := .builtin .len, args := #[(.tmp 20)], argTypes := #[22] }, none⟩, ⟨some 22, .binOp .add 3 (.tmp 15) (.tmp 21) 3, none⟩, ⟨some 23, .move (.tmp 1), none⟩, ⟨some 24, .binOp .gtr 3 (.tmp 22) (.tmp 23) 3, none⟩])) (.keep [0, 1, 6, 7, 24])) (.cond (.tmp 24) (.seq (.seq (.reg ([⟨some 25, .move (.tmp 7), none⟩, ⟨some 26, .move (.tmp 6), none⟩, ⟨some 4, .assign (.tmp 25), none⟩, ⟨some 5, .assign (.tmp 26), none⟩])) (.keep [4, 5])) .ret) .skip)) (.seq (.reg ([⟨some 27, .move (.tmp 6), none⟩, ⟨some 28, .move (.tmp 0), none⟩, ⟨some 29, .move (.tmp 7), none⟩, ⟨some 30, .indexAddr 40 (.tmp 28) (.tmp 29), none⟩, ⟨some 31, .fieldAddr 51 (.tmp 30) 1, none⟩, ⟨some 32, .load 22 (.tmp 31), none⟩, ⟨some 33, .call { callee := .builtin .len, args := #[(.tmp 32)], argTypes := #[22] }, none⟩, ⟨some 34, .binOp .add 3 (.const (.int .i64 12)) (.tmp 33) 3, none⟩, ⟨some 35, .binOp .add 3 (.tmp 27) (.tmp 34) 3, none⟩, ⟨some 6, .assign (.tmp 35), none⟩])) (.keep [0, 1, 6, 7])))) (.seq (.reg ([⟨some 12, .move (.tmp 7), none⟩, ⟨some 13, .binOp .add 3 (.tmp 12) (.const (.int .i64 1)) 3, none⟩, ⟨some 7, .assign (.tmp 13), none⟩])) (.keep [0, 1, 6, 7]))))))) (.seq (.seq (.reg ([⟨some 36, .move (.tmp 0), none⟩, ⟨some 37, .call { callee := .builtin .len, args := #[(.tmp 36)], argTypes := #[40] }, none⟩, ⟨some 38, .move (.tmp 6), none⟩, ⟨some 4, .assign (.tmp 37), none⟩, ⟨some 5, .assign (.tmp 38), none⟩])) (.keep [4, 5])) .ret))))
attribute [go_sem ↓] c_law03_whole
def h_law03_whole : List Hint := [⟨[], [0, 1], []⟩, ⟨[], [0, 1, 6], []⟩, ⟨[], [0, 1, 6, 7], []⟩, ⟨[], [0, 1, 6, 7], []⟩, ⟨[], [0, 1, 6, 7, 11], []⟩, ⟨[], [0, 1, 6, 7, 24], []⟩, ⟨[], [4, 5], []⟩, ⟨[], [0, 1, 6, 7], []⟩, ⟨[], [0, 1, 6, 7], []⟩, ⟨[], [4, 5], []⟩]
theorem b_law03_whole : Body Try.prog 39 [] h_law03_whole c_law03_whole 39 [.tmp 4, .tmp 5] := body_of Try.func39 (by kernel_rfl) (by kernel_rfl) (by kernel_rfl) (by kernel_rfl)
def c_law03_found : C := (.seq (.seq (.reg ([⟨some 4, .assign (.const (.int .i64 0)), none⟩, ⟨some 5, .assign (.const (.int .i64 0)), none⟩])) (.keep [0, 1])) (.seq (.seq (.reg ([⟨some 12, .move (.tmp 0), none⟩, ⟨some 13, .call { callee := .value (.func 34), args := #[(.tmp 12)], argTypes := #[40] }, none⟩, ⟨some 11, .move (.tmp 13), none⟩, ⟨some 14, .extract (.tmp 11) 0, none⟩, ⟨some 15, .extract (.tmp 11) 1, none⟩, ⟨some 6, .assign (.tmp 14), none⟩, ⟨some 7, .assign (.tmp 15), none⟩])) (.keep [1, 6, 7])) (.seq (.seq (.seq (.reg ([⟨some 16, .move (.tmp 7), none⟩, ⟨some 17, .binOp .neq 25 (.tmp 16) (.const (.int .i64 0)) 25, none⟩, ⟨some 18, .move (.tmp 17), none⟩, ⟨some 19, .move (.tmp 6), some (18, false)⟩, ⟨some 20, .call { callee := .builtin .len, args := #[(.tmp 19)], argTypes := #[22] }, some (18, false)⟩, ⟨some 21, .move (.tmp 1), some (18, false)⟩, ⟨some 22, .binOp .lss 3 (.tmp 20) (.tmp 21) 3, some (18, false)⟩, ⟨some 23, .pick (.tmp 18) (.const (.bool true)) (.tmp 22), none⟩])) (.keep [1, 6, 23])) (.cond (.tmp 23) (.seq (.seq (.reg ([⟨some 4, .assign (.const (.int .i64 (-1))), none⟩, ⟨some 5, .assign (.const (.int .i64 (-1))), none⟩])) (.keep [4, 5])) .ret) .skip)) (.seq (.seq (.reg ([⟨some 25, .move (.tmp 6), none⟩, ⟨some 26, .move (.tmp 1), none⟩, ⟨some 27, .slice 22 (.tmp 25) none (some (.tmp 26)) none, none⟩, ⟨some 28, .call { callee := .value (.func 24), args := #[(.tmp 27)], argTypes := #[22] }, none⟩, ⟨some 24, .move (.tmp 28), none⟩, ⟨some 29, .extract (.tmp 24) 0, none⟩, ⟨some 30, .extract (.tmp 24) 1, none⟩, ⟨some 31, .extract (.tmp 24) 2, none⟩, ⟨some 8, .assign (.tmp 29), none⟩, ⟨some 9, .assign (.tmp 30), none⟩, ⟨some 10, .assign (.tmp 31), none⟩])) (.keep [8, 9, 10])) (.seq (.seq (.seq (.reg ([⟨some 32, .move (.tmp 10), none⟩, ⟨some 33, .binOp .neq 25 (.tmp 32) (.const (.int .i64 0)) 25, none⟩])) (.keep [8, 9, 33])) (.cond (.tmp 33) (.seq (.seq (.reg ([⟨some 4, .assign (.const (.int .i64 (-1))), none⟩, ⟨some 5, .assign (.const (.int .i64 (-1))), none⟩])) (.keep [4, 5])) .ret) .skip)) (.seq (.seq (.reg ([⟨some 34, .move (.tmp 8), none⟩, ⟨some 35, .call { callee := .builtin .len, args := #[(.tmp 34)], argTypes := #[40] }, none⟩, ⟨some 36, .move (.tmp 9), none⟩, ⟨some 4, .assign (.tmp 35), none⟩, ⟨some 5, .assign (.tmp 36), none⟩])) (.keep [4, 5])) .ret))))))
attribute [go_sem ↓] c_law03_found
def h_law03_found : List Hint := [⟨[], [0, 1], []⟩, ⟨[], [1, 6, 7], []⟩, ⟨[], [1, 6, 23], []⟩, ⟨[], [4, 5], []⟩, ⟨[], [8, 9, 10], []⟩, ⟨[], [8, 9, 33], []⟩, ⟨[], [4, 5], []⟩, ⟨[], [4, 5], []⟩]
theorem b_law03_found : Body Try.prog 40 [] h_law03_found c_law03_found 37 [.tmp 4, .tmp 5] := body_of Try.func40 (by kernel_rfl) (by kernel_rfl) (by kernel_rfl) (by kernel_rfl)
def c_law03_letter : C := (.seq (.seq (.reg ([⟨some 4, .alloc 51, none⟩])) (.keep [0, 1, 4])) (.seq (.seq (.reg ([⟨some 5, .move (.tmp 0), none⟩, ⟨some 6, .move (.tmp 1), none⟩, ⟨some 7, .buildSlice 22 1 #[(0, (.tmp 6))], none⟩, ⟨some 8, .build 51 #[(0, (.tmp 5)), (1, (.tmp 7))], none⟩, ⟨none, .store 51 (.tmp 4) (.tmp 8), none⟩])) (.keep [4])) .ret))
attribute [go_sem ↓] c_law03_letter
def h_law03_letter : List Hint := [⟨[], [0, 1, 4], []⟩, ⟨[], [4], []⟩]
theorem b_law03_letter : Body Try.prog 41 [] h_law03_letter c_law03_letter 9 [.cell 4 51] := body_of Try.func41 (by kernel_rfl) (by kernel_rfl) (by kernel_rfl) (by kernel_rfl)

end Go.Proofs.Ytadnjellfiafaaa.Pm
