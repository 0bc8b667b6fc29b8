/- Texts of this proof in one file: PmFi, PmFj, PmFk, PmFl, PmFm, PmFqd. No law of Go's is stated here. -/
import Derived.Test.YtdpnjhooehadmaaPmMe
/-! PmFi -/
set_option linter.all false
namespace Go.Proofs.Ytdpnjhooehadmaa.Pm
open Go Go.RowKit

theorem getV_num (b0 b1 b2 b3 : BitVec 8) : (getV b0 b1 b2 b3 4).toNat = numL b0 b1 b2 b3 := by
  have h0 := b0.isLt
  have h1 := b1.isLt
  have h2 := b2.isLt
  have h3 := b3.isLt
  have e0 : (0#32 ||| b0.setWidth 32 <<< 0).toNat = b0.toNat := by simp; omega
  have e1 : (b1.setWidth 32 <<< 8).toNat = b1.toNat <<< 8 := by
    rw [BitVec.toNat_shiftLeft, BitVec.toNat_setWidth, Nat.mod_eq_of_lt (by omega : b1.toNat < 2 ^ 32), Nat.mod_eq_of_lt]
    rw [Nat.shiftLeft_eq]; omega
  have e2 : (b2.setWidth 32 <<< 16).toNat = b2.toNat <<< 16 := by
    rw [BitVec.toNat_shiftLeft, BitVec.toNat_setWidth, Nat.mod_eq_of_lt (by omega : b2.toNat < 2 ^ 32), Nat.mod_eq_of_lt]
    rw [Nat.shiftLeft_eq]; omega
  have e3 : (b3.setWidth 32 <<< 24).toNat = b3.toNat <<< 24 := by
    rw [BitVec.toNat_shiftLeft, BitVec.toNat_setWidth, Nat.mod_eq_of_lt (by omega : b3.toNat < 2 ^ 32), Nat.mod_eq_of_lt]
    rw [Nat.shiftLeft_eq]; omega
  show (0#32 ||| b0.setWidth 32 <<< 0 ||| b1.setWidth 32 <<< 8 ||| b2.setWidth 32 <<< 16 ||| b3.setWidth 32 <<< 24).toNat = _
  rw [BitVec.toNat_or, BitVec.toNat_or, BitVec.toNat_or, e0, e1, e2, e3]
  rw [Nat.or_comm b0.toNat, ← Nat.shiftLeft_add_eq_or_of_lt (by omega : b0.toNat < 2 ^ 8)]
  rw [Nat.or_comm _ (b2.toNat <<< 16), ← Nat.shiftLeft_add_eq_or_of_lt (by rw [Nat.shiftLeft_eq]; omega)]
  rw [Nat.or_comm _ (b3.toNat <<< 24), ← Nat.shiftLeft_add_eq_or_of_lt (by rw [Nat.shiftLeft_eq, Nat.shiftLeft_eq]; omega)]
  simp only [Nat.shiftLeft_eq, numL]
  omega
theorem four_nat (n : BitVec 32) : fourL n = [BitVec.ofNat 8 n.toNat, BitVec.ofNat 8 (n.toNat / 256), BitVec.ofNat 8 (n.toNat / 65536), BitVec.ofNat 8 (n.toNat / 16777216)] := by
  unfold fourL
  simp only [List.cons.injEq, and_true]
  refine ⟨?_, ?_, ?_, ?_⟩ <;> apply BitVec.eq_of_toNat_eq <;> simp [Nat.shiftRight_eq_div_pow]
theorem byte_eq {a : BitVec 8} {n : Nat} (h : n % 256 = a.toNat) : BitVec.ofNat 8 n = a := by
  apply BitVec.eq_of_toNat_eq
  simpa using h
theorem four_num {n : BitVec 32} {b0 b1 b2 b3 : BitVec 8} (h : n.toNat = numL b0 b1 b2 b3) : fourL n = [b0, b1, b2, b3] := by
  have h0 := b0.isLt
  have h1 := b1.isLt
  have h2 := b2.isLt
  have h3 := b3.isLt
  unfold numL at h
  rw [four_nat]
  simp only [List.cons.injEq, and_true]
  refine ⟨byte_eq ?_, byte_eq ?_, byte_eq ?_, byte_eq ?_⟩ <;> omega
theorem num_four {n : BitVec 32} {b0 b1 b2 b3 : BitVec 8} (h : fourL n = [b0, b1, b2, b3]) : n.toNat = numL b0 b1 b2 b3 := by
  rw [four_nat] at h
  simp only [List.cons.injEq, and_true] at h
  obtain ⟨rfl, rfl, rfl, rfl⟩ := h
  have := n.isLt
  unfold numL
  simp only [BitVec.toNat_ofNat]
  omega
theorem four_getV (b0 b1 b2 b3 : BitVec 8) : fourL (getV b0 b1 b2 b3 4) = [b0, b1, b2, b3] := four_num (getV_num _ _ _ _)
theorem four_inj {m n : BitVec 32} (h : fourL m = fourL n) : m = n := by
  apply BitVec.eq_of_toNat_eq
  have h1 := num_four (n := m) rfl
  have h2 := num_four (n := n) (b0 := m.setWidth 8) (b1 := (m >>> 8).setWidth 8) (b2 := (m >>> 16).setWidth 8) (b3 := (m >>> 24).setWidth 8) (by rw [← h]; rfl)
  omega

/-- The record with which bytes begin. -/
def oneL : List (BitVec 8) → Option Rec
  | b0 :: b1 :: b2 :: b3 :: c0 :: c1 :: c2 :: c3 :: d0 :: d1 :: d2 :: d3 :: bs =>
    if numL b0 b1 b2 b3 ≤ 1000 ∧ numL b0 b1 b2 b3 ≤ bs.length ∧ numL c0 c1 c2 c3 ≤ 1000000000 ∧ getV d0 d1 d2 d3 4 = updV 0#32 ([b0, b1, b2, b3, c0, c1, c2, c3] ++ bs.take (numL b0 b1 b2 b3)) then some ⟨numL c0 c1 c2 c3, bs.take (numL b0 b1 b2 b3)⟩ else none
  | _ => none
theorem ofInt_nat (n : Nat) : BitVec.ofInt 32 (n : Int) = BitVec.ofNat 32 n := by simp
theorem head_of {b0 b1 b2 b3 c0 c1 c2 c3 : BitVec 8} {r : Rec} (h1 : r.data.length = numL b0 b1 b2 b3) (h2 : r.num = (numL c0 c1 c2 c3 : Nat)) (hb : numL b0 b1 b2 b3 < 4294967296) (hc : numL c0 c1 c2 c3 < 4294967296) : headL r = [b0, b1, b2, b3, c0, c1, c2, c3] := by
  unfold headL
  rw [h1, h2, ofInt_nat, four_num (b0 := b0) (b1 := b1) (b2 := b2) (b3 := b3) (by rw [BitVec.toNat_ofNat]; omega), four_num (b0 := c0) (b1 := c1) (b2 := c2) (b3 := c3) (by rw [BitVec.toNat_ofNat]; omega)]
  rfl
theorem oneL_short {bs : List (BitVec 8)} (h : bs.length < 12) : oneL bs = none := by
  unfold oneL
  split
  · simp at h; omega
  · rfl
/-- What is found is valid, and the bytes begin with its bytes. -/
theorem oneL_some {bs : List (BitVec 8)} {r : Rec} (h : oneL bs = some r) : r.ok = true ∧ ∃ q, bs = bytesL r ++ q := by
  unfold oneL at h
  split at h
  · rename_i b0 b1 b2 b3 c0 c1 c2 c3 d0 d1 d2 d3 bs
    split at h
    · rename_i hc
      obtain ⟨g1, g2, g3, g4⟩ := hc
      simp only [Option.some.injEq] at h
      subst h
      have hl : (bs.take (numL b0 b1 b2 b3)).length = numL b0 b1 b2 b3 := by simp; omega
      refine ⟨(Rec.ok_iff _).2 ⟨by simp only; omega, by simp only; omega, by simp only [hl]; omega⟩, bs.drop (numL b0 b1 b2 b3), ?_⟩
      unfold bytesL
      rw [head_of (r := ⟨numL c0 c1 c2 c3, bs.take (numL b0 b1 b2 b3)⟩) hl rfl (by omega) (by omega), ← g4, four_getV]
      simp
    · cases h
  · cases h
/-- Valid records are found by their bytes. -/
theorem oneL_bytes {r : Rec} (h : r.ok = true) (q : List (BitVec 8)) : oneL (bytesL r ++ q) = some r := by
  obtain ⟨h0, h1, h2⟩ := r.ok_iff.1 h
  obtain ⟨n, hn⟩ : ∃ n : Nat, r.num = n := ⟨r.num.toNat, by omega⟩
  obtain ⟨b0, b1, b2, b3, hb⟩ : ∃ b0 b1 b2 b3, fourL (BitVec.ofNat 32 r.data.length) = [b0, b1, b2, b3] := ⟨_, _, _, _, rfl⟩
  obtain ⟨c0, c1, c2, c3, hc⟩ : ∃ b0 b1 b2 b3, fourL (BitVec.ofInt 32 r.num) = [b0, b1, b2, b3] := ⟨_, _, _, _, rfl⟩
  obtain ⟨d0, d1, d2, d3, hd⟩ : ∃ b0 b1 b2 b3, fourL (updV 0#32 (headL r ++ r.data)) = [b0, b1, b2, b3] := ⟨_, _, _, _, rfl⟩
  have n1 := num_four hb
  have n2 := num_four hc
  rw [BitVec.toNat_ofNat, Nat.mod_eq_of_lt (by omega)] at n1
  rw [hn, ofInt_nat, BitVec.toNat_ofNat, Nat.mod_eq_of_lt (by omega)] at n2
  have n3 : getV d0 d1 d2 d3 4 = updV 0#32 (headL r ++ r.data) := four_inj (by rw [four_getV, hd])
  have hh : headL r = [b0, b1, b2, b3, c0, c1, c2, c3] := by unfold headL; rw [hb, hc]; rfl
  unfold bytesL
  rw [hd, hh]
  rw [hh] at n3
  simp only [List.cons_append, List.nil_append, oneL]
  rw [← n1, ← n2, List.take_left]
  rw [if_pos ⟨by omega, by simp, by omega, by simpa using n3⟩]
  congr 1
  cases r
  simp only at hn ⊢
  rw [hn]
/-- The record behind some records. -/
def nextL (bs : List (BitVec 8)) (m : List Rec) : Option Rec := match oneL (bs.drop (catR m).length) with
  | some r => match m.getLast? with
    | some p => if r.num = p.num + 1 then some r else none
    | none => some r
  | none => none
def scanF (bs : List (BitVec 8)) : Nat → List Rec → List Rec
  | 0, m => m
  | f + 1, m => match nextL bs m with
    | some r => scanF bs f (m ++ [r])
    | none => m
def scanL (bs : List (BitVec 8)) : List Rec := scanF bs (bs.length + 1) []
theorem catR_append (l m : List Rec) : catR (l ++ m) = catR l ++ catR m := by simp [catR]
theorem catR_split {l : List Rec} {k : Nat} (h : k < l.length) : catR l = catR (l.take k) ++ (bytesL l[k] ++ catR (l.drop (k + 1))) := by
  have : l = l.take k ++ (l[k] :: l.drop (k + 1)) := by rw [List.getElem_cons_drop h, List.take_append_drop]
  conv => lhs; rw [this]
  rw [catR_append]
  have h2 : catR (l[k] :: l.drop (k + 1)) = bytesL l[k] ++ catR (l.drop (k + 1)) := by unfold catR; rw [List.map_cons, List.flatten_cons]
  rw [h2]
theorem catR_one (r : Rec) : catR [r] = bytesL r := by simp [catR]
theorem catR_nil : catR [] = [] := rfl
theorem nextL_some {bs : List (BitVec 8)} {m : List Rec} {r : Rec} (h : nextL bs m = some r) : oneL (bs.drop (catR m).length) = some r ∧ ∀ p, m.getLast? = some p → r.num = p.num + 1 := by
  unfold nextL at h
  split at h
  · rename_i r' h1
    split at h
    · rename_i p hp
      split at h
      · simp only [Option.some.injEq] at h
        subst h
        exact ⟨h1, fun p' hp' => by rw [hp] at hp'; cases hp'; assumption⟩
      · cases h
    · rename_i hp
      simp only [Option.some.injEq] at h
      subst h
      exact ⟨h1, fun p' hp' => by rw [hp] at hp'; cases hp'⟩
  · cases h
theorem nextL_len {bs : List (BitVec 8)} {m : List Rec} {r : Rec} (h : nextL bs m = some r) (hm : (catR m).length ≤ bs.length) : (catR (m ++ [r])).length ≤ bs.length ∧ (catR (m ++ [r])).length = (catR m).length + 12 + r.data.length := by
  obtain ⟨h1, _⟩ := nextL_some h
  obtain ⟨_, q, hq⟩ := oneL_some h1
  have := congrArg List.length hq
  rw [catR_append, catR_one, List.length_append, bytesL_length]
  rw [List.length_append, bytesL_length, List.length_drop] at this
  omega
/-- What a scan keeps to. -/
structure ScanOK (bs : List (BitVec 8)) (m : List Rec) : Prop where
  bytes : ∃ q, bs = catR m ++ q
  ok : ∀ r ∈ m, r.ok = true
  row : ∀ k (h : k + 1 < m.length), m[k + 1].num = m[k].num + 1
theorem scanOK_nil (bs : List (BitVec 8)) : ScanOK bs [] := ⟨⟨bs, rfl⟩, by simp, by simp⟩
theorem scanOK_step {bs : List (BitVec 8)} {m : List Rec} {r : Rec} (hm : ScanOK bs m) (h : nextL bs m = some r) : ScanOK bs (m ++ [r]) := by
  obtain ⟨h1, h2⟩ := nextL_some h
  obtain ⟨h3, q, hq⟩ := oneL_some h1
  obtain ⟨q0, hq0⟩ := hm.bytes
  refine ⟨⟨q, ?_⟩, fun x hx => ?_, fun k hk => ?_⟩
  · rw [hq0, List.drop_left] at hq
    rw [catR_append, catR_one, hq0, hq, List.append_assoc]
  · rcases List.mem_append.1 hx with hx | hx
    · exact hm.ok x hx
    · simp at hx; subst hx; exact h3
  · simp only [List.length_append, List.length_singleton] at hk
    by_cases e : k + 1 < m.length
    · rw [List.getElem_append_left e, List.getElem_append_left (by omega)]
      exact hm.row k e
    · have e2 : k + 1 = m.length := by omega
      rw [List.getElem_append_right (by omega), List.getElem_append_left (by omega)]
      simp only [e2, Nat.sub_self, List.getElem_cons_zero]
      refine h2 m[k] ?_
      rw [List.getLast?_eq_getElem?]
      simp [← e2]
theorem scanF_ok {bs : List (BitVec 8)} : ∀ (f : Nat) (m : List Rec), ScanOK bs m → ScanOK bs (scanF bs f m)
  | 0, m, h => h
  | f + 1, m, h => by
    unfold scanF
    split
    · rename_i r hr
      exact scanF_ok f _ (scanOK_step h hr)
    · exact h
theorem scanL_ok (bs : List (BitVec 8)) : ScanOK bs (scanL bs) := scanF_ok _ _ (scanOK_nil bs)
/-- A scan is the only list that keeps to the bytes and cannot go on. -/
theorem scanF_unique {bs : List (BitVec 8)} (l : List Rec) (hl : ScanOK bs l) (he : nextL bs l = none) : ∀ (f k : Nat), k ≤ l.length → bs.length < f + (catR (l.take k)).length → scanF bs f (l.take k) = l
  | 0, k, hk, hf => by
    obtain ⟨q, hq⟩ := hl.bytes
    have := congrArg List.length hq
    have h2 := catR_le l k
    rw [List.length_append] at this
    omega
  | f + 1, k, hk, hf => by
    unfold scanF
    by_cases e : k = l.length
    · subst e
      rw [List.take_length, he]
    · have hk' : k < l.length := by omega
      obtain ⟨q, hq⟩ := hl.bytes
      have hn : nextL bs (l.take k) = some l[k] := by
        have h1 : bs.drop (catR (l.take k)).length = bytesL l[k] ++ (catR (l.drop (k + 1)) ++ q) := by
          rw [hq, catR_split hk', List.append_assoc, List.drop_left, List.append_assoc]
        unfold nextL
        rw [h1, oneL_bytes (hl.ok _ (List.getElem_mem hk'))]
        simp only
        split
        · rename_i p hp
          rw [List.getLast?_eq_getElem?, List.length_take, Nat.min_eq_left (by omega)] at hp
          have hk0 : 0 < k := by
            rcases Nat.eq_zero_or_pos k with h0 | h0
            · subst h0; simp at hp
            · exact h0
          have hp' : l[k - 1]? = some p := by
            rw [List.getElem?_take_of_lt (by omega)] at hp
            exact hp
          have := hl.row (k - 1) (by omega)
          have e1 : k - 1 + 1 = k := by omega
          simp only [e1] at this
          rw [List.getElem?_eq_getElem (by omega)] at hp'
          simp only [Option.some.injEq] at hp'
          rw [if_pos (by rw [this, hp'])]
        · rfl
      rw [hn]
      simp only
      rw [List.take_append_getElem hk']
      refine scanF_unique l hl he f (k + 1) (by omega) ?_
      rw [catR_length_step hk']
      omega
theorem scanL_unique {bs : List (BitVec 8)} {l : List Rec} (hl : ScanOK bs l) (he : nextL bs l = none) : scanL bs = l := scanF_unique l hl he (bs.length + 1) 0 (Nat.zero_le _) (by simp [catR])
end Go.Proofs.Ytdpnjhooehadmaa.Pm

/-! PmFj -/
set_option linter.all false
set_option maxRecDepth 100000
namespace Go.Proofs.Ytdpnjhooehadmaa.Pm
open Go Go.RowKit

/-- Within a stretch with two labels: what holds where the run goes. -/
def jmp (l0 l1 : Nat) (J0 J1 : Nat → S → Prop) (l n : Nat) (s : S) : Prop := (l = l0 ∧ J0 n s) ∨ (l = l1 ∧ J1 n s)
def gotoF (x : Cx) (f : Ex → S → Prop) (k : Kont) (J : Nat → Nat → S → Prop) (e : Ex) (s : S) : Prop := match e with
  | .g l => ∃ n, J l n s
  | e => runK x f k e s
def gotoN (x : Cx) (f : Ex → S → Prop) (k : Kont) (J : Nat → Nat → S → Prop) (n : Nat) (e : Ex) (s : S) : Prop := match e with
  | .g l => ∃ n', n' < n ∧ J l n' s
  | e => runK x f k e s
section
variable (x : Cx) (f : Ex → S → Prop) (k : Kont) (J : Nat → Nat → S → Prop) (n : Nat) (s : S)
theorem gotoF_g (l : Nat) : gotoF x f k J (.g l) s = ∃ n, J l n s := rfl
theorem gotoF_r : gotoF x f k J .r s = Rk x f k .r s .mk := rfl
theorem gotoF_n : gotoF x f k J .n s = Rk x f k .n s .mk := rfl
theorem gotoN_g (l : Nat) : gotoN x f k J n (.g l) s = ∃ n', n' < n ∧ J l n' s := rfl
theorem gotoN_r : gotoN x f k J n .r s = Rk x f k .r s .mk := rfl
theorem gotoN_n : gotoN x f k J n .n s = Rk x f k .n s .mk := rfl
end
attribute [go_sem ↓] gotoF_g gotoF_r gotoF_n gotoN_g gotoN_r gotoN_n
theorem scope_2 {x : Cx} {f : Ex → S → Prop} {k : Kont} {ad : List (Nat × Nat)} {mk : List Nat} {c c0 c1 : C} {l0 l1 : Nat} {s : S} {l : Lock (f, k, c, [(l0, c0), (l1, c1)])} (J0 J1 : Nat → S → Prop) (hne : l0 ≠ l1)
    (h1 : Wk x (gotoF x f k (jmp l0 l1 J0 J1)) .base c s .mk)
    (h2 : ∀ n s, J0 n s → ∃ m, Wk x (gotoN x f k (jmp l0 l1 J0 J1) n) .base c0 (cut mk m (adopt ad s)) .mk)
    (h3 : ∀ n s, J1 n s → ∃ m, Wk x (gotoN x f k (jmp l0 l1 J0 J1) n) .base c1 (cut mk m (adopt ad s)) .mk) : Gk x f k ad mk c [(l0, c0), (l1, c1)] s l := by
  refine ⟨jmp l0 l1 J0 J1, h1, ?_⟩
  rintro l n s (⟨rfl, h⟩ | ⟨rfl, h⟩)
  · obtain ⟨m, hm⟩ := h2 n s h
    refine ⟨m, ?_⟩
    simp only [Ws, if_true]
    exact hm
  · obtain ⟨m, hm⟩ := h3 n s h
    refine ⟨m, ?_⟩
    simp only [Ws, if_neg hne, if_true]
    exact hm
def scanV (r : Rec) : List AV := [.t (.i .i64 r.num) true, .t (.sl (bT r.data)) true]
def scanG (bs : List (BitVec 8)) (m : List Rec) (ver : Nat) (b0 b1 : Blk) : S := ⟨tmL [(0, .t (.sl (bT bs)) false), (5, .row 2 ver 0 m.length), (6, .ptr 0 0), (7, .t (.i .i64 (catR m).length) true)], [b0, b1, .row ver 2 (recsT m) true]⟩
def scanE (bs : List (BitVec 8)) (b0 : Blk) : S := ⟨tmL [(0, .t (.sl (bT bs)) false), (5, .row 1 0 0 0), (6, .ptr 0 0), (7, .t (.i .i64 0) true)], [b0, .row 0 2 [] true]⟩
theorem catR_many (l : List Rec) : 12 * l.length ≤ (catR l).length := by
  induction l with
  | nil => simp
  | cons r l ih =>
    have : catR (r :: l) = bytesL r ++ catR l := by unfold catR; rw [List.map_cons, List.flatten_cons]
    rw [this, List.length_append, bytesL_length, List.length_cons]
    omega
theorem scan_same : c_frame_Scan_52 = c_frame_Scan_24 := rfl
theorem long_split {q : List (BitVec 8)} (h : ¬ q.length < 12) : ∃ b0 b1 b2 b3 c0 c1 c2 c3 d0 d1 d2 d3 bs, q = b0 :: b1 :: b2 :: b3 :: c0 :: c1 :: c2 :: c3 :: d0 :: d1 :: d2 :: d3 :: bs := by
  obtain ⟨x0, q, rfl⟩ := List.exists_cons_of_length_pos (l := q) (by omega)
  obtain ⟨x1, q, rfl⟩ := List.exists_cons_of_length_pos (l := q) (by simp only [List.length_cons] at h; omega)
  obtain ⟨x2, q, rfl⟩ := List.exists_cons_of_length_pos (l := q) (by simp only [List.length_cons] at h; omega)
  obtain ⟨x3, q, rfl⟩ := List.exists_cons_of_length_pos (l := q) (by simp only [List.length_cons] at h; omega)
  obtain ⟨x4, q, rfl⟩ := List.exists_cons_of_length_pos (l := q) (by simp only [List.length_cons] at h; omega)
  obtain ⟨x5, q, rfl⟩ := List.exists_cons_of_length_pos (l := q) (by simp only [List.length_cons] at h; omega)
  obtain ⟨x6, q, rfl⟩ := List.exists_cons_of_length_pos (l := q) (by simp only [List.length_cons] at h; omega)
  obtain ⟨x7, q, rfl⟩ := List.exists_cons_of_length_pos (l := q) (by simp only [List.length_cons] at h; omega)
  obtain ⟨x8, q, rfl⟩ := List.exists_cons_of_length_pos (l := q) (by simp only [List.length_cons] at h; omega)
  obtain ⟨x9, q, rfl⟩ := List.exists_cons_of_length_pos (l := q) (by simp only [List.length_cons] at h; omega)
  obtain ⟨x10, q, rfl⟩ := List.exists_cons_of_length_pos (l := q) (by simp only [List.length_cons] at h; omega)
  obtain ⟨x11, q, rfl⟩ := List.exists_cons_of_length_pos (l := q) (by simp only [List.length_cons] at h; omega)
  exact ⟨_, _, _, _, _, _, _, _, _, _, _, _, _, rfl⟩
theorem scan_round (bs : List (BitVec 8)) (hl : bs.length ≤ 20000) (M : List Rec) (hm : (catR M).length ≤ bs.length) (hM : M ≠ []) (hok : ∀ r ∈ M, r.ok = true) (ver : Nat) (a b : AV) (b1 : Blk) (f : Ex → S → Prop)
    (h0 : ∀ r s', nextL bs M = some r → (∃ b1, cut [0, 5, 6, 7] 3 (adopt [(5, 2)] s') = scanG bs (M ++ [r]) (ver + 1) (.var (scanV r)) b1) → f (.g 0) s')
    (h1 : ∀ s', nextL bs M = none → (∃ b0 b1, cut [0, 5, 6, 7] 3 (adopt [(5, 2)] s') = scanG bs M ver b0 b1) → f (.g 1) s') : Wk X f .base c_frame_Scan_24 (scanG bs M ver (.var [a, b]) b1) .mk := by
  have hle : (((catR M).length : Nat) : Int) ≤ ((bs.length : Nat) : Int) := by omega
  simp -implicitDefEqProofs only [go_sem, reduceIte, Nat.reduceAdd, Nat.reduceSub, Nat.reduceMul, Nat.reduceLT, Nat.reduceLeDiff, Nat.reduceEqDiff, Nat.reduceBEq, Int.reduceLE, Int.reduceLT, Int.reduceToNat, Int.reduceMul, Int.reduceAdd, Int.reduceSub, Int.reduceNeg, Int.reduceEq, reduceCtorEq, Nat.reduceMod, scanG, hle, bT_rest bs _ hm, Int.le_refl]
  refine ⟨.inr (okEs_bT bs), ?_⟩
  generalize hq : bs.drop (catR M).length = q
  by_cases h12 : q.length < 12
  · have e12 : ((q.length : Int) < 12) = True := eq_true (by omega)
    simp -implicitDefEqProofs only [go_sem, reduceIte, Nat.reduceAdd, Nat.reduceSub, Nat.reduceMul, Nat.reduceLT, Nat.reduceLeDiff, Nat.reduceEqDiff, Nat.reduceBEq, Int.reduceLE, Int.reduceLT, Int.reduceToNat, Int.reduceMul, Int.reduceAdd, Int.reduceSub, Int.reduceNeg, Int.reduceEq, reduceCtorEq, Nat.reduceMod, e12]
    refine h1 _ ?_ ?_
    · unfold nextL
      rw [hq, oneL_short h12]
    · simp -implicitDefEqProofs only [go_sem, reduceIte, Nat.reduceAdd, Nat.reduceSub, Nat.reduceMul, Nat.reduceLT, Nat.reduceLeDiff, Nat.reduceEqDiff, Nat.reduceBEq, Int.reduceLE, Int.reduceLT, Int.reduceToNat, Int.reduceMul, Int.reduceAdd, Int.reduceSub, Int.reduceNeg, Int.reduceEq, reduceCtorEq, Nat.reduceMod, scanG]
      exact ⟨_, _, rfl⟩
  · obtain ⟨b0, b1, b2, b3, c0, c1, c2, c3, d0, d1, d2, d3, bs', rfl⟩ := long_split h12
    have hbl : (catR M).length + (bs'.length + 12) = bs.length := by
      have := congrArg List.length hq
      simp only [List.length_drop, List.length_cons] at this
      omega
    have e12 : (((bs'.length + 1 + 1 + 1 + 1 + 1 + 1 + 1 + 1 + 1 + 1 + 1 + 1 : Nat) : Int) < 12) = False := eq_false (by omega)
    simp -implicitDefEqProofs only [go_sem, reduceIte, Nat.reduceAdd, Nat.reduceSub, Nat.reduceMul, Nat.reduceLT, Nat.reduceLeDiff, Nat.reduceEqDiff, Nat.reduceBEq, Int.reduceLE, Int.reduceLT, Int.reduceToNat, Int.reduceMul, Int.reduceAdd, Int.reduceSub, Int.reduceNeg, Int.reduceEq, reduceCtorEq, Nat.reduceMod, e12]
    refine call_k (s_frame_get b0 b1 b2 b3 (c0 :: c1 :: c2 :: c3 :: d0 :: d1 :: d2 :: d3 :: bs') (by simp only [List.length_cons]; omega)) ?_
    have hb := getV_num b0 b1 b2 b3
    have hc := getV_num c0 c1 c2 c3
    have hd := getV_num d0 d1 d2 d3
    have hnone : ¬ (numL b0 b1 b2 b3 ≤ 1000 ∧ numL b0 b1 b2 b3 ≤ bs'.length ∧ numL c0 c1 c2 c3 ≤ 1000000000 ∧ getV d0 d1 d2 d3 4 = updV 0#32 ([b0, b1, b2, b3, c0, c1, c2, c3] ++ bs'.take (numL b0 b1 b2 b3))) → nextL bs M = none := fun h => by
      unfold nextL
      rw [hq]
      simp only [oneL, if_neg h]
    have w12 : IntKind.i64.wrap (((bs'.length + 1 + 1 + 1 + 1 + 1 + 1 + 1 + 1 + 1 + 1 + 1 + 1 : Nat) : Int) - 12) = (bs'.length : Int) := by rw [wrap_i64_id (by omega) (by omega)]; omega
    have wb : IntKind.i64.wrap ((numL b0 b1 b2 b3 : Nat) : Int) = ((numL b0 b1 b2 b3 : Nat) : Int) := by
      have := (getV b0 b1 b2 b3 4).isLt
      rw [wrap_i64_id (by omega) (by omega)]
    by_cases g1 : 1000 < numL b0 b1 b2 b3
    · have f1 : (((numL b0 b1 b2 b3 : Nat) : Int) > 1000) = True := eq_true (by omega)
      simp -implicitDefEqProofs only [go_sem, reduceIte, Nat.reduceAdd, Nat.reduceSub, Nat.reduceMul, Nat.reduceLT, Nat.reduceLeDiff, Nat.reduceEqDiff, Nat.reduceBEq, Int.reduceLE, Int.reduceLT, Int.reduceToNat, Int.reduceMul, Int.reduceAdd, Int.reduceSub, Int.reduceNeg, Int.reduceEq, reduceCtorEq, Nat.reduceMod, hb, f1]
      refine h1 _ (hnone (by omega)) ?_
      simp -implicitDefEqProofs only [go_sem, reduceIte, Nat.reduceAdd, Nat.reduceSub, Nat.reduceMul, Nat.reduceLT, Nat.reduceLeDiff, Nat.reduceEqDiff, Nat.reduceBEq, Int.reduceLE, Int.reduceLT, Int.reduceToNat, Int.reduceMul, Int.reduceAdd, Int.reduceSub, Int.reduceNeg, Int.reduceEq, reduceCtorEq, Nat.reduceMod, scanG]
      exact ⟨_, _, rfl⟩
    have f1 : (((numL b0 b1 b2 b3 : Nat) : Int) > 1000) = False := eq_false (by omega)
    by_cases g2 : bs'.length < numL b0 b1 b2 b3
    · have f2 : (((numL b0 b1 b2 b3 : Nat) : Int) > ((bs'.length : Nat) : Int)) = True := eq_true (by omega)
      simp -implicitDefEqProofs only [go_sem, reduceIte, Nat.reduceAdd, Nat.reduceSub, Nat.reduceMul, Nat.reduceLT, Nat.reduceLeDiff, Nat.reduceEqDiff, Nat.reduceBEq, Int.reduceLE, Int.reduceLT, Int.reduceToNat, Int.reduceMul, Int.reduceAdd, Int.reduceSub, Int.reduceNeg, Int.reduceEq, reduceCtorEq, Nat.reduceMod, hb, f1, w12, wb, f2]
      refine h1 _ (hnone (by omega)) ?_
      simp -implicitDefEqProofs only [go_sem, reduceIte, Nat.reduceAdd, Nat.reduceSub, Nat.reduceMul, Nat.reduceLT, Nat.reduceLeDiff, Nat.reduceEqDiff, Nat.reduceBEq, Int.reduceLE, Int.reduceLT, Int.reduceToNat, Int.reduceMul, Int.reduceAdd, Int.reduceSub, Int.reduceNeg, Int.reduceEq, reduceCtorEq, Nat.reduceMod, scanG]
      exact ⟨_, _, rfl⟩
    have f2 : (((numL b0 b1 b2 b3 : Nat) : Int) > ((bs'.length : Nat) : Int)) = False := eq_false (by omega)
    simp -implicitDefEqProofs only [go_sem, reduceIte, Nat.reduceAdd, Nat.reduceSub, Nat.reduceMul, Nat.reduceLT, Nat.reduceLeDiff, Nat.reduceEqDiff, Nat.reduceBEq, Int.reduceLE, Int.reduceLT, Int.reduceToNat, Int.reduceMul, Int.reduceAdd, Int.reduceSub, Int.reduceNeg, Int.reduceEq, reduceCtorEq, Nat.reduceMod, hb, f1, w12, wb, f2]
    have wc : IntKind.i64.wrap ((numL c0 c1 c2 c3 : Nat) : Int) = ((numL c0 c1 c2 c3 : Nat) : Int) := by
      have := (getV c0 c1 c2 c3 4).isLt
      rw [wrap_i64_id (by omega) (by omega)]
    have e4 : List.take (((bs'.length + 1 + 1 + 1 + 1 + 1 + 1 + 1 + 1 + 1 + 1 + 1 + 1 : Nat) : Int) - 4).toNat (List.drop 4 (bT (b0 :: b1 :: b2 :: b3 :: c0 :: c1 :: c2 :: c3 :: d0 :: d1 :: d2 :: d3 :: bs'))) = bT (c0 :: c1 :: c2 :: c3 :: d0 :: d1 :: d2 :: d3 :: bs') :=
      bT_rest (b0 :: b1 :: b2 :: b3 :: c0 :: c1 :: c2 :: c3 :: d0 :: d1 :: d2 :: d3 :: bs') 4 (by simp)
    have e8 : List.take (((bs'.length + 1 + 1 + 1 + 1 + 1 + 1 + 1 + 1 + 1 + 1 + 1 + 1 : Nat) : Int) - 8).toNat (List.drop 8 (bT (b0 :: b1 :: b2 :: b3 :: c0 :: c1 :: c2 :: c3 :: d0 :: d1 :: d2 :: d3 :: bs'))) = bT (d0 :: d1 :: d2 :: d3 :: bs') :=
      bT_rest (b0 :: b1 :: b2 :: b3 :: c0 :: c1 :: c2 :: c3 :: d0 :: d1 :: d2 :: d3 :: bs') 8 (by simp)
    have w2 : IntKind.i64.wrap (12 + ((numL b0 b1 b2 b3 : Nat) : Int)) = ((12 + numL b0 b1 b2 b3 : Nat) : Int) := by rw [wrap_i64_id (by omega) (by omega)]; omega
    have ed : List.take (((12 + numL b0 b1 b2 b3 : Nat) : Int) - 12).toNat (List.drop 12 (bT (b0 :: b1 :: b2 :: b3 :: c0 :: c1 :: c2 :: c3 :: d0 :: d1 :: d2 :: d3 :: bs'))) = bT (bs'.take (numL b0 b1 b2 b3)) := by
      rw [show (((12 + numL b0 b1 b2 b3 : Nat) : Int) - 12).toNat = numL b0 b1 b2 b3 by omega, bT_dropN, bT_takeN]
      rfl
    refine ⟨⟨⟨by omega, by omega⟩, okEs_bT _⟩, ?_⟩
    refine call_k (s_frame_get c0 c1 c2 c3 (d0 :: d1 :: d2 :: d3 :: bs') (by simp only [List.length_cons]; omega)) ?_ (by simp -implicitDefEqProofs only [go_sem, reduceIte, Nat.reduceAdd, Nat.reduceSub, Nat.reduceMul, Nat.reduceLT, Nat.reduceLeDiff, Nat.reduceEqDiff, Nat.reduceBEq, Int.reduceLE, Int.reduceLT, Int.reduceToNat, Int.reduceMul, Int.reduceAdd, Int.reduceSub, Int.reduceNeg, Int.reduceEq, reduceCtorEq, Nat.reduceMod, e4])
    simp -implicitDefEqProofs only [go_sem, reduceIte, Nat.reduceAdd, Nat.reduceSub, Nat.reduceMul, Nat.reduceLT, Nat.reduceLeDiff, Nat.reduceEqDiff, Nat.reduceBEq, Int.reduceLE, Int.reduceLT, Int.reduceToNat, Int.reduceMul, Int.reduceAdd, Int.reduceSub, Int.reduceNeg, Int.reduceEq, reduceCtorEq, Nat.reduceMod]
    refine call_k (s_frame_get b0 b1 b2 b3 (c0 :: c1 :: c2 :: c3 :: d0 :: d1 :: d2 :: d3 :: bs') (by simp only [List.length_cons]; omega)) ?_
    simp -implicitDefEqProofs only [go_sem, reduceIte, Nat.reduceAdd, Nat.reduceSub, Nat.reduceMul, Nat.reduceLT, Nat.reduceLeDiff, Nat.reduceEqDiff, Nat.reduceBEq, Int.reduceLE, Int.reduceLT, Int.reduceToNat, Int.reduceMul, Int.reduceAdd, Int.reduceSub, Int.reduceNeg, Int.reduceEq, reduceCtorEq, Nat.reduceMod, hb, hc, wb, wc, w2]
    refine ⟨⟨⟨by omega, by omega⟩, okEs_bT _⟩, ?_⟩
    refine call_k (s_bytes_Clone (bs'.take (numL b0 b1 b2 b3)) (by rw [List.length_take]; omega)) ?_ (by simp -implicitDefEqProofs only [go_sem, reduceIte, Nat.reduceAdd, Nat.reduceSub, Nat.reduceMul, Nat.reduceLT, Nat.reduceLeDiff, Nat.reduceEqDiff, Nat.reduceBEq, Int.reduceLE, Int.reduceLT, Int.reduceToNat, Int.reduceMul, Int.reduceAdd, Int.reduceSub, Int.reduceNeg, Int.reduceEq, reduceCtorEq, Nat.reduceMod, ed])
    by_cases g3 : 1000000000 < numL c0 c1 c2 c3
    · have f3 : (((numL c0 c1 c2 c3 : Nat) : Int) > 1000000000) = True := eq_true (by omega)
      simp -implicitDefEqProofs only [go_sem, reduceIte, Nat.reduceAdd, Nat.reduceSub, Nat.reduceMul, Nat.reduceLT, Nat.reduceLeDiff, Nat.reduceEqDiff, Nat.reduceBEq, Int.reduceLE, Int.reduceLT, Int.reduceToNat, Int.reduceMul, Int.reduceAdd, Int.reduceSub, Int.reduceNeg, Int.reduceEq, reduceCtorEq, Nat.reduceMod, hc, wc, f3]
      refine h1 _ (hnone (by omega)) ?_
      simp -implicitDefEqProofs only [go_sem, reduceIte, Nat.reduceAdd, Nat.reduceSub, Nat.reduceMul, Nat.reduceLT, Nat.reduceLeDiff, Nat.reduceEqDiff, Nat.reduceBEq, Int.reduceLE, Int.reduceLT, Int.reduceToNat, Int.reduceMul, Int.reduceAdd, Int.reduceSub, Int.reduceNeg, Int.reduceEq, reduceCtorEq, Nat.reduceMod, scanG]
      exact ⟨_, _, rfl⟩
    have f3 : (((numL c0 c1 c2 c3 : Nat) : Int) > 1000000000) = False := eq_false (by omega)
    simp -implicitDefEqProofs only [go_sem, reduceIte, Nat.reduceAdd, Nat.reduceSub, Nat.reduceMul, Nat.reduceLT, Nat.reduceLeDiff, Nat.reduceEqDiff, Nat.reduceBEq, Int.reduceLE, Int.reduceLT, Int.reduceToNat, Int.reduceMul, Int.reduceAdd, Int.reduceSub, Int.reduceNeg, Int.reduceEq, reduceCtorEq, Nat.reduceMod, hc, wc, f3]
    refine ⟨⟨⟨by omega, by omega⟩, okEs_bT _⟩, ?_⟩
    refine call_d (s_frame_get d0 d1 d2 d3 bs' (by omega)) ?_ (by simp -implicitDefEqProofs only [go_sem, reduceIte, Nat.reduceAdd, Nat.reduceSub, Nat.reduceMul, Nat.reduceLT, Nat.reduceLeDiff, Nat.reduceEqDiff, Nat.reduceBEq, Int.reduceLE, Int.reduceLT, Int.reduceToNat, Int.reduceMul, Int.reduceAdd, Int.reduceSub, Int.reduceNeg, Int.reduceEq, reduceCtorEq, Nat.reduceMod, e8])
    simp -implicitDefEqProofs only [go_sem, reduceIte, Nat.reduceAdd, Nat.reduceSub, Nat.reduceMul, Nat.reduceLT, Nat.reduceLeDiff, Nat.reduceEqDiff, Nat.reduceBEq, Int.reduceLE, Int.reduceLT, Int.reduceToNat, Int.reduceMul, Int.reduceAdd, Int.reduceSub, Int.reduceNeg, Int.reduceEq, reduceCtorEq, Nat.reduceMod, Int.natCast_zero]
    refine ⟨⟨by omega, .inl trivial⟩, ?_⟩
    refine call_d (s_frame_sum [b0, b1, b2, b3, c0, c1, c2, c3] (bs'.take (numL b0 b1 b2 b3)) (by simp) (by rw [List.length_take]; omega)) ?_ ?_
    · by_cases g4 : getV d0 d1 d2 d3 4 = updV 0#32 (b0 :: b1 :: b2 :: b3 :: c0 :: c1 :: c2 :: c3 :: bs'.take (numL b0 b1 b2 b3))
      · have f4 : (((getV d0 d1 d2 d3 4).toNat : Int) != ((updV 0#32 (b0 :: b1 :: b2 :: b3 :: c0 :: c1 :: c2 :: c3 :: bs'.take (numL b0 b1 b2 b3))).toNat : Int)) = false := by rw [g4]; simp
        have hone : oneL (bs.drop (catR M).length) = some ⟨numL c0 c1 c2 c3, bs'.take (numL b0 b1 b2 b3)⟩ := by
          rw [hq]
          simp only [oneL]
          rw [if_pos ⟨by omega, by omega, by omega, g4⟩]
        obtain ⟨p, hp⟩ : ∃ p, M.getLast? = some p := by
          cases hx : M.getLast? with
          | none => exact (hM (List.getLast?_eq_none_iff.1 hx)).elim
          | some p => exact ⟨p, rfl⟩
        have hpos : 0 < M.length := List.length_pos_iff.2 hM
        have hgt : ((M.length : Int) > 0) = True := eq_true (by omega)
        have hix : (M.length : Int) - 1 = ((M.length - 1 : Nat) : Int) := by omega
        have hw1 : IntKind.i64.wrap ((M.length : Int) - 1) = ((M.length - 1 : Nat) : Int) := by
          have := catR_many M
          rw [wrap_i64_id (by omega) (by omega)]; omega
        have hpm : p ∈ M := List.mem_of_getLast? hp
        obtain ⟨k0, k1, k2⟩ := p.ok_iff.1 (hok p hpm)
        have wp : IntKind.i64.wrap (p.num + 1) = p.num + 1 := wrap_i64_id (by omega) (by omega)
        have hlt1 : (((M.length - 1 : Nat) : Int) < (M.length : Int)) = True := eq_true (by omega)
        have hget : (recsT M)[M.length - 1]? = some p.cells := by
          rw [List.getLast?_eq_getElem?] at hp
          simp [recsT, hp]
        simp -implicitDefEqProofs only [go_sem, reduceIte, Nat.reduceAdd, Nat.reduceSub, Nat.reduceMul, Nat.reduceLT, Nat.reduceLeDiff, Nat.reduceEqDiff, Nat.reduceBEq, Int.reduceLE, Int.reduceLT, Int.reduceToNat, Int.reduceMul, Int.reduceAdd, Int.reduceSub, Int.reduceNeg, Int.reduceEq, reduceCtorEq, Nat.reduceMod, f4, recsT_length, hgt, hw1, hlt1, hget, Rec.cells, wp]
        by_cases g5 : p.num + 1 = (numL c0 c1 c2 c3 : Nat)
        · have f5 : (p.num + 1 != ((numL c0 c1 c2 c3 : Nat) : Int)) = false := by rw [g5]; simp
          have hnx : nextL bs M = some ⟨numL c0 c1 c2 c3, bs'.take (numL b0 b1 b2 b3)⟩ := by
            unfold nextL
            rw [hone]
            simp only [hp]
            rw [if_pos g5.symm]
          have hln := (nextL_len hnx hm).2
          simp only at hln
          have hcm := catR_many M
          have hdl : (bs'.take (numL b0 b1 b2 b3)).length = numL b0 b1 b2 b3 := by rw [List.length_take]; omega
          have wl : IntKind.i64.wrap (12 + (((bs'.take (numL b0 b1 b2 b3)).length : Nat) : Int)) = ((12 + (bs'.take (numL b0 b1 b2 b3)).length : Nat) : Int) := by rw [wrap_i64_id (by omega) (by omega)]; omega
          have wa : IntKind.i64.wrap (((catR M).length : Int) + ((12 + (bs'.take (numL b0 b1 b2 b3)).length : Nat) : Int)) = (((catR (M ++ [(⟨numL c0 c1 c2 c3, bs'.take (numL b0 b1 b2 b3)⟩ : Rec)])).length : Nat) : Int) := by rw [wrap_i64_id (by omega) (by omega)]; omega
          simp -implicitDefEqProofs only [go_sem, reduceIte, Nat.reduceAdd, Nat.reduceSub, Nat.reduceMul, Nat.reduceLT, Nat.reduceLeDiff, Nat.reduceEqDiff, Nat.reduceBEq, Int.reduceLE, Int.reduceLT, Int.reduceToNat, Int.reduceMul, Int.reduceAdd, Int.reduceSub, Int.reduceNeg, Int.reduceEq, reduceCtorEq, Nat.reduceMod, f5, wl, wa]
          refine ⟨⟨by simp [okEs, T.one], by rw [recsT_length]; exact Nat.le_refl _, by unfold room; omega⟩, h0 _ _ hnx ?_⟩
          simp -implicitDefEqProofs only [go_sem, reduceIte, Nat.reduceAdd, Nat.reduceSub, Nat.reduceMul, Nat.reduceLT, Nat.reduceLeDiff, Nat.reduceEqDiff, Nat.reduceBEq, Int.reduceLE, Int.reduceLT, Int.reduceToNat, Int.reduceMul, Int.reduceAdd, Int.reduceSub, Int.reduceNeg, Int.reduceEq, reduceCtorEq, Nat.reduceMod, scanG, scanV]
          have e1 : List.take M.length (recsT M) ++ [[T.i .i64 (numL c0 c1 c2 c3), T.sl (bT (bs'.take (numL b0 b1 b2 b3)))]] = recsT (M ++ [(⟨numL c0 c1 c2 c3, bs'.take (numL b0 b1 b2 b3)⟩ : Rec)]) := by
            rw [List.take_of_length_le (by rw [recsT_length]; exact Nat.le_refl _)]
            simp [recsT, Rec.cells]
          have e2 : (M ++ [(⟨numL c0 c1 c2 c3, bs'.take (numL b0 b1 b2 b3)⟩ : Rec)]).length = M.length + 1 := by simp
          rw [e1, e2]
          exact ⟨_, rfl⟩
        · have f5 : (p.num + 1 != ((numL c0 c1 c2 c3 : Nat) : Int)) = true := by rw [bne_iff_ne]; exact g5
          simp -implicitDefEqProofs only [go_sem, reduceIte, Nat.reduceAdd, Nat.reduceSub, Nat.reduceMul, Nat.reduceLT, Nat.reduceLeDiff, Nat.reduceEqDiff, Nat.reduceBEq, Int.reduceLE, Int.reduceLT, Int.reduceToNat, Int.reduceMul, Int.reduceAdd, Int.reduceSub, Int.reduceNeg, Int.reduceEq, reduceCtorEq, Nat.reduceMod, f5]
          refine h1 _ ?_ ?_
          · unfold nextL
            rw [hone]
            simp only [hp]
            rw [if_neg (fun e => g5 e.symm)]
          · simp -implicitDefEqProofs only [go_sem, reduceIte, Nat.reduceAdd, Nat.reduceSub, Nat.reduceMul, Nat.reduceLT, Nat.reduceLeDiff, Nat.reduceEqDiff, Nat.reduceBEq, Int.reduceLE, Int.reduceLT, Int.reduceToNat, Int.reduceMul, Int.reduceAdd, Int.reduceSub, Int.reduceNeg, Int.reduceEq, reduceCtorEq, Nat.reduceMod, scanG]
            exact ⟨_, _, rfl⟩
      · have f4 : (((getV d0 d1 d2 d3 4).toNat : Int) != ((updV 0#32 (b0 :: b1 :: b2 :: b3 :: c0 :: c1 :: c2 :: c3 :: bs'.take (numL b0 b1 b2 b3))).toNat : Int)) = true := by
          rw [bne_iff_ne]
          intro e
          exact g4 (BitVec.eq_of_toNat_eq (by omega))
        simp -implicitDefEqProofs only [go_sem, reduceIte, Nat.reduceAdd, Nat.reduceSub, Nat.reduceMul, Nat.reduceLT, Nat.reduceLeDiff, Nat.reduceEqDiff, Nat.reduceBEq, Int.reduceLE, Int.reduceLT, Int.reduceToNat, Int.reduceMul, Int.reduceAdd, Int.reduceSub, Int.reduceNeg, Int.reduceEq, reduceCtorEq, Nat.reduceMod, f4]
        refine h1 _ (hnone fun h => g4 h.2.2.2) ?_
        simp -implicitDefEqProofs only [go_sem, reduceIte, Nat.reduceAdd, Nat.reduceSub, Nat.reduceMul, Nat.reduceLT, Nat.reduceLeDiff, Nat.reduceEqDiff, Nat.reduceBEq, Int.reduceLE, Int.reduceLT, Int.reduceToNat, Int.reduceMul, Int.reduceAdd, Int.reduceSub, Int.reduceNeg, Int.reduceEq, reduceCtorEq, Nat.reduceMod, scanG]
        exact ⟨_, _, rfl⟩
    · simp -implicitDefEqProofs only [go_sem, reduceIte, Nat.reduceAdd, Nat.reduceSub, Nat.reduceMul, Nat.reduceLT, Nat.reduceLeDiff, Nat.reduceEqDiff, Nat.reduceBEq, Int.reduceLE, Int.reduceLT, Int.reduceToNat, Int.reduceMul, Int.reduceAdd, Int.reduceSub, Int.reduceNeg, Int.reduceEq, reduceCtorEq, Nat.reduceMod]
      rfl
theorem scan_first (bs : List (BitVec 8)) (hl : bs.length ≤ 20000) (f : Ex → S → Prop)
    (h0 : ∀ r s', nextL bs [] = some r → (∃ b1, cut [0, 5, 6, 7] 3 (adopt [(5, 2)] s') = scanG bs [r] 0 (.var (scanV r)) b1) → f (.g 0) s')
    (h1 : ∀ s', nextL bs [] = none → (∃ b0, cut [0, 5, 6, 7] 3 (adopt [(5, 2)] s') = scanE bs b0) → f (.g 1) s') : Wk X f .base c_frame_Scan_24 ⟨tmL [(0, .t (.sl (bT bs)) false), (5, .nl), (6, .ptr 0 0), (7, .t (.i .i64 0) true)], [.var [.t (.i .i64 0) true, .nl]]⟩ .mk := by
  have hn0 : (0 : Int) ≤ ((bs.length : Nat) : Int) := by omega
  simp -implicitDefEqProofs only [go_sem, reduceIte, Nat.reduceAdd, Nat.reduceSub, Nat.reduceMul, Nat.reduceLT, Nat.reduceLeDiff, Nat.reduceEqDiff, Nat.reduceBEq, Int.reduceLE, Int.reduceLT, Int.reduceToNat, Int.reduceMul, Int.reduceAdd, Int.reduceSub, Int.reduceNeg, Int.reduceEq, reduceCtorEq, Nat.reduceMod, hn0, Int.sub_zero, bT_take_self, Int.le_refl]
  refine ⟨.inl trivial, ?_⟩
  by_cases h12 : bs.length < 12
  · have e12 : ((bs.length : Int) < 12) = True := eq_true (by omega)
    simp -implicitDefEqProofs only [go_sem, reduceIte, Nat.reduceAdd, Nat.reduceSub, Nat.reduceMul, Nat.reduceLT, Nat.reduceLeDiff, Nat.reduceEqDiff, Nat.reduceBEq, Int.reduceLE, Int.reduceLT, Int.reduceToNat, Int.reduceMul, Int.reduceAdd, Int.reduceSub, Int.reduceNeg, Int.reduceEq, reduceCtorEq, Nat.reduceMod, e12]
    refine h1 _ ?_ ?_
    · unfold nextL
      rw [catR_nil, List.length_nil, List.drop_zero, oneL_short h12]
    · simp -implicitDefEqProofs only [go_sem, reduceIte, Nat.reduceAdd, Nat.reduceSub, Nat.reduceMul, Nat.reduceLT, Nat.reduceLeDiff, Nat.reduceEqDiff, Nat.reduceBEq, Int.reduceLE, Int.reduceLT, Int.reduceToNat, Int.reduceMul, Int.reduceAdd, Int.reduceSub, Int.reduceNeg, Int.reduceEq, reduceCtorEq, Nat.reduceMod, scanE]
      exact ⟨_, rfl⟩
  · obtain ⟨b0, b1, b2, b3, c0, c1, c2, c3, d0, d1, d2, d3, bs', rfl⟩ := long_split h12
    have hbl : bs'.length + 12 ≤ 20000 := by
      simp only [List.length_cons] at hl
      omega
    have e12 : (((bs'.length + 1 + 1 + 1 + 1 + 1 + 1 + 1 + 1 + 1 + 1 + 1 + 1 : Nat) : Int) < 12) = False := eq_false (by omega)
    simp -implicitDefEqProofs only [go_sem, reduceIte, Nat.reduceAdd, Nat.reduceSub, Nat.reduceMul, Nat.reduceLT, Nat.reduceLeDiff, Nat.reduceEqDiff, Nat.reduceBEq, Int.reduceLE, Int.reduceLT, Int.reduceToNat, Int.reduceMul, Int.reduceAdd, Int.reduceSub, Int.reduceNeg, Int.reduceEq, reduceCtorEq, Nat.reduceMod, e12]
    refine call_k (s_frame_get b0 b1 b2 b3 (c0 :: c1 :: c2 :: c3 :: d0 :: d1 :: d2 :: d3 :: bs') (by simp only [List.length_cons]; omega)) ?_
    have hb := getV_num b0 b1 b2 b3
    have hc := getV_num c0 c1 c2 c3
    have hd := getV_num d0 d1 d2 d3
    have hnone : ¬ (numL b0 b1 b2 b3 ≤ 1000 ∧ numL b0 b1 b2 b3 ≤ bs'.length ∧ numL c0 c1 c2 c3 ≤ 1000000000 ∧ getV d0 d1 d2 d3 4 = updV 0#32 ([b0, b1, b2, b3, c0, c1, c2, c3] ++ bs'.take (numL b0 b1 b2 b3))) → nextL (b0 :: b1 :: b2 :: b3 :: c0 :: c1 :: c2 :: c3 :: d0 :: d1 :: d2 :: d3 :: bs') [] = none := fun h => by
      unfold nextL
      rw [catR_nil, List.length_nil, List.drop_zero]
      simp only [oneL, if_neg h]
    have w12 : IntKind.i64.wrap (((bs'.length + 1 + 1 + 1 + 1 + 1 + 1 + 1 + 1 + 1 + 1 + 1 + 1 : Nat) : Int) - 12) = (bs'.length : Int) := by rw [wrap_i64_id (by omega) (by omega)]; omega
    have wb : IntKind.i64.wrap ((numL b0 b1 b2 b3 : Nat) : Int) = ((numL b0 b1 b2 b3 : Nat) : Int) := by
      have := (getV b0 b1 b2 b3 4).isLt
      rw [wrap_i64_id (by omega) (by omega)]
    by_cases g1 : 1000 < numL b0 b1 b2 b3
    · have f1 : (((numL b0 b1 b2 b3 : Nat) : Int) > 1000) = True := eq_true (by omega)
      simp -implicitDefEqProofs only [go_sem, reduceIte, Nat.reduceAdd, Nat.reduceSub, Nat.reduceMul, Nat.reduceLT, Nat.reduceLeDiff, Nat.reduceEqDiff, Nat.reduceBEq, Int.reduceLE, Int.reduceLT, Int.reduceToNat, Int.reduceMul, Int.reduceAdd, Int.reduceSub, Int.reduceNeg, Int.reduceEq, reduceCtorEq, Nat.reduceMod, hb, f1]
      refine h1 _ (hnone (by omega)) ?_
      simp -implicitDefEqProofs only [go_sem, reduceIte, Nat.reduceAdd, Nat.reduceSub, Nat.reduceMul, Nat.reduceLT, Nat.reduceLeDiff, Nat.reduceEqDiff, Nat.reduceBEq, Int.reduceLE, Int.reduceLT, Int.reduceToNat, Int.reduceMul, Int.reduceAdd, Int.reduceSub, Int.reduceNeg, Int.reduceEq, reduceCtorEq, Nat.reduceMod, scanE]
      exact ⟨_, rfl⟩
    have f1 : (((numL b0 b1 b2 b3 : Nat) : Int) > 1000) = False := eq_false (by omega)
    by_cases g2 : bs'.length < numL b0 b1 b2 b3
    · have f2 : (((numL b0 b1 b2 b3 : Nat) : Int) > ((bs'.length : Nat) : Int)) = True := eq_true (by omega)
      simp -implicitDefEqProofs only [go_sem, reduceIte, Nat.reduceAdd, Nat.reduceSub, Nat.reduceMul, Nat.reduceLT, Nat.reduceLeDiff, Nat.reduceEqDiff, Nat.reduceBEq, Int.reduceLE, Int.reduceLT, Int.reduceToNat, Int.reduceMul, Int.reduceAdd, Int.reduceSub, Int.reduceNeg, Int.reduceEq, reduceCtorEq, Nat.reduceMod, hb, f1, w12, wb, f2]
      refine h1 _ (hnone (by omega)) ?_
      simp -implicitDefEqProofs only [go_sem, reduceIte, Nat.reduceAdd, Nat.reduceSub, Nat.reduceMul, Nat.reduceLT, Nat.reduceLeDiff, Nat.reduceEqDiff, Nat.reduceBEq, Int.reduceLE, Int.reduceLT, Int.reduceToNat, Int.reduceMul, Int.reduceAdd, Int.reduceSub, Int.reduceNeg, Int.reduceEq, reduceCtorEq, Nat.reduceMod, scanE]
      exact ⟨_, rfl⟩
    have f2 : (((numL b0 b1 b2 b3 : Nat) : Int) > ((bs'.length : Nat) : Int)) = False := eq_false (by omega)
    simp -implicitDefEqProofs only [go_sem, reduceIte, Nat.reduceAdd, Nat.reduceSub, Nat.reduceMul, Nat.reduceLT, Nat.reduceLeDiff, Nat.reduceEqDiff, Nat.reduceBEq, Int.reduceLE, Int.reduceLT, Int.reduceToNat, Int.reduceMul, Int.reduceAdd, Int.reduceSub, Int.reduceNeg, Int.reduceEq, reduceCtorEq, Nat.reduceMod, hb, f1, w12, wb, f2]
    have wc : IntKind.i64.wrap ((numL c0 c1 c2 c3 : Nat) : Int) = ((numL c0 c1 c2 c3 : Nat) : Int) := by
      have := (getV c0 c1 c2 c3 4).isLt
      rw [wrap_i64_id (by omega) (by omega)]
    have e4 : List.take (((bs'.length + 1 + 1 + 1 + 1 + 1 + 1 + 1 + 1 + 1 + 1 + 1 + 1 : Nat) : Int) - 4).toNat (List.drop 4 (bT (b0 :: b1 :: b2 :: b3 :: c0 :: c1 :: c2 :: c3 :: d0 :: d1 :: d2 :: d3 :: bs'))) = bT (c0 :: c1 :: c2 :: c3 :: d0 :: d1 :: d2 :: d3 :: bs') :=
      bT_rest (b0 :: b1 :: b2 :: b3 :: c0 :: c1 :: c2 :: c3 :: d0 :: d1 :: d2 :: d3 :: bs') 4 (by simp)
    have e8 : List.take (((bs'.length + 1 + 1 + 1 + 1 + 1 + 1 + 1 + 1 + 1 + 1 + 1 + 1 : Nat) : Int) - 8).toNat (List.drop 8 (bT (b0 :: b1 :: b2 :: b3 :: c0 :: c1 :: c2 :: c3 :: d0 :: d1 :: d2 :: d3 :: bs'))) = bT (d0 :: d1 :: d2 :: d3 :: bs') :=
      bT_rest (b0 :: b1 :: b2 :: b3 :: c0 :: c1 :: c2 :: c3 :: d0 :: d1 :: d2 :: d3 :: bs') 8 (by simp)
    have w2 : IntKind.i64.wrap (12 + ((numL b0 b1 b2 b3 : Nat) : Int)) = ((12 + numL b0 b1 b2 b3 : Nat) : Int) := by rw [wrap_i64_id (by omega) (by omega)]; omega
    have ed : List.take (((12 + numL b0 b1 b2 b3 : Nat) : Int) - 12).toNat (List.drop 12 (bT (b0 :: b1 :: b2 :: b3 :: c0 :: c1 :: c2 :: c3 :: d0 :: d1 :: d2 :: d3 :: bs'))) = bT (bs'.take (numL b0 b1 b2 b3)) := by
      rw [show (((12 + numL b0 b1 b2 b3 : Nat) : Int) - 12).toNat = numL b0 b1 b2 b3 by omega, bT_dropN, bT_takeN]
      rfl
    refine ⟨⟨⟨by omega, by omega⟩, okEs_bT _⟩, ?_⟩
    refine call_k (s_frame_get c0 c1 c2 c3 (d0 :: d1 :: d2 :: d3 :: bs') (by simp only [List.length_cons]; omega)) ?_ (by simp -implicitDefEqProofs only [go_sem, reduceIte, Nat.reduceAdd, Nat.reduceSub, Nat.reduceMul, Nat.reduceLT, Nat.reduceLeDiff, Nat.reduceEqDiff, Nat.reduceBEq, Int.reduceLE, Int.reduceLT, Int.reduceToNat, Int.reduceMul, Int.reduceAdd, Int.reduceSub, Int.reduceNeg, Int.reduceEq, reduceCtorEq, Nat.reduceMod, e4])
    simp -implicitDefEqProofs only [go_sem, reduceIte, Nat.reduceAdd, Nat.reduceSub, Nat.reduceMul, Nat.reduceLT, Nat.reduceLeDiff, Nat.reduceEqDiff, Nat.reduceBEq, Int.reduceLE, Int.reduceLT, Int.reduceToNat, Int.reduceMul, Int.reduceAdd, Int.reduceSub, Int.reduceNeg, Int.reduceEq, reduceCtorEq, Nat.reduceMod]
    refine call_k (s_frame_get b0 b1 b2 b3 (c0 :: c1 :: c2 :: c3 :: d0 :: d1 :: d2 :: d3 :: bs') (by simp only [List.length_cons]; omega)) ?_
    simp -implicitDefEqProofs only [go_sem, reduceIte, Nat.reduceAdd, Nat.reduceSub, Nat.reduceMul, Nat.reduceLT, Nat.reduceLeDiff, Nat.reduceEqDiff, Nat.reduceBEq, Int.reduceLE, Int.reduceLT, Int.reduceToNat, Int.reduceMul, Int.reduceAdd, Int.reduceSub, Int.reduceNeg, Int.reduceEq, reduceCtorEq, Nat.reduceMod, hb, hc, wb, wc, w2]
    refine ⟨⟨⟨by omega, by omega⟩, okEs_bT _⟩, ?_⟩
    refine call_k (s_bytes_Clone (bs'.take (numL b0 b1 b2 b3)) (by rw [List.length_take]; omega)) ?_ (by simp -implicitDefEqProofs only [go_sem, reduceIte, Nat.reduceAdd, Nat.reduceSub, Nat.reduceMul, Nat.reduceLT, Nat.reduceLeDiff, Nat.reduceEqDiff, Nat.reduceBEq, Int.reduceLE, Int.reduceLT, Int.reduceToNat, Int.reduceMul, Int.reduceAdd, Int.reduceSub, Int.reduceNeg, Int.reduceEq, reduceCtorEq, Nat.reduceMod, ed])
    by_cases g3 : 1000000000 < numL c0 c1 c2 c3
    · have f3 : (((numL c0 c1 c2 c3 : Nat) : Int) > 1000000000) = True := eq_true (by omega)
      simp -implicitDefEqProofs only [go_sem, reduceIte, Nat.reduceAdd, Nat.reduceSub, Nat.reduceMul, Nat.reduceLT, Nat.reduceLeDiff, Nat.reduceEqDiff, Nat.reduceBEq, Int.reduceLE, Int.reduceLT, Int.reduceToNat, Int.reduceMul, Int.reduceAdd, Int.reduceSub, Int.reduceNeg, Int.reduceEq, reduceCtorEq, Nat.reduceMod, hc, wc, f3]
      refine h1 _ (hnone (by omega)) ?_
      simp -implicitDefEqProofs only [go_sem, reduceIte, Nat.reduceAdd, Nat.reduceSub, Nat.reduceMul, Nat.reduceLT, Nat.reduceLeDiff, Nat.reduceEqDiff, Nat.reduceBEq, Int.reduceLE, Int.reduceLT, Int.reduceToNat, Int.reduceMul, Int.reduceAdd, Int.reduceSub, Int.reduceNeg, Int.reduceEq, reduceCtorEq, Nat.reduceMod, scanE]
      exact ⟨_, rfl⟩
    have f3 : (((numL c0 c1 c2 c3 : Nat) : Int) > 1000000000) = False := eq_false (by omega)
    simp -implicitDefEqProofs only [go_sem, reduceIte, Nat.reduceAdd, Nat.reduceSub, Nat.reduceMul, Nat.reduceLT, Nat.reduceLeDiff, Nat.reduceEqDiff, Nat.reduceBEq, Int.reduceLE, Int.reduceLT, Int.reduceToNat, Int.reduceMul, Int.reduceAdd, Int.reduceSub, Int.reduceNeg, Int.reduceEq, reduceCtorEq, Nat.reduceMod, hc, wc, f3]
    refine ⟨⟨⟨by omega, by omega⟩, okEs_bT _⟩, ?_⟩
    refine call_d (s_frame_get d0 d1 d2 d3 bs' (by omega)) ?_ (by simp -implicitDefEqProofs only [go_sem, reduceIte, Nat.reduceAdd, Nat.reduceSub, Nat.reduceMul, Nat.reduceLT, Nat.reduceLeDiff, Nat.reduceEqDiff, Nat.reduceBEq, Int.reduceLE, Int.reduceLT, Int.reduceToNat, Int.reduceMul, Int.reduceAdd, Int.reduceSub, Int.reduceNeg, Int.reduceEq, reduceCtorEq, Nat.reduceMod, e8])
    simp -implicitDefEqProofs only [go_sem, reduceIte, Nat.reduceAdd, Nat.reduceSub, Nat.reduceMul, Nat.reduceLT, Nat.reduceLeDiff, Nat.reduceEqDiff, Nat.reduceBEq, Int.reduceLE, Int.reduceLT, Int.reduceToNat, Int.reduceMul, Int.reduceAdd, Int.reduceSub, Int.reduceNeg, Int.reduceEq, reduceCtorEq, Nat.reduceMod, Int.natCast_zero]
    refine ⟨⟨by omega, .inl trivial⟩, ?_⟩
    refine call_d (s_frame_sum [b0, b1, b2, b3, c0, c1, c2, c3] (bs'.take (numL b0 b1 b2 b3)) (by simp) (by rw [List.length_take]; omega)) ?_ ?_
    · by_cases g4 : getV d0 d1 d2 d3 4 = updV 0#32 (b0 :: b1 :: b2 :: b3 :: c0 :: c1 :: c2 :: c3 :: bs'.take (numL b0 b1 b2 b3))
      · have f4 : (((getV d0 d1 d2 d3 4).toNat : Int) != ((updV 0#32 (b0 :: b1 :: b2 :: b3 :: c0 :: c1 :: c2 :: c3 :: bs'.take (numL b0 b1 b2 b3))).toNat : Int)) = false := by rw [g4]; simp
        have hone : oneL (b0 :: b1 :: b2 :: b3 :: c0 :: c1 :: c2 :: c3 :: d0 :: d1 :: d2 :: d3 :: bs') = some ⟨numL c0 c1 c2 c3, bs'.take (numL b0 b1 b2 b3)⟩ := by
          simp only [oneL]
          rw [if_pos ⟨by omega, by omega, by omega, g4⟩]
        have hnx : nextL (b0 :: b1 :: b2 :: b3 :: c0 :: c1 :: c2 :: c3 :: d0 :: d1 :: d2 :: d3 :: bs') [] = some ⟨numL c0 c1 c2 c3, bs'.take (numL b0 b1 b2 b3)⟩ := by
          unfold nextL
          rw [catR_nil, List.length_nil, List.drop_zero, hone]
          rfl
        have hln := (nextL_len hnx (by simp [catR])).2
        simp only [catR_nil, List.length_nil] at hln
        have hdl : (bs'.take (numL b0 b1 b2 b3)).length = numL b0 b1 b2 b3 := by rw [List.length_take]; omega
        have wl : IntKind.i64.wrap (12 + (((bs'.take (numL b0 b1 b2 b3)).length : Nat) : Int)) = ((12 + (bs'.take (numL b0 b1 b2 b3)).length : Nat) : Int) := by rw [wrap_i64_id (by omega) (by omega)]; omega
        have wa : IntKind.i64.wrap ((0 : Int) + ((12 + (bs'.take (numL b0 b1 b2 b3)).length : Nat) : Int)) = (((catR [(⟨numL c0 c1 c2 c3, bs'.take (numL b0 b1 b2 b3)⟩ : Rec)]).length : Nat) : Int) := by
          have : ([] ++ [(⟨numL c0 c1 c2 c3, bs'.take (numL b0 b1 b2 b3)⟩ : Rec)]) = [(⟨numL c0 c1 c2 c3, bs'.take (numL b0 b1 b2 b3)⟩ : Rec)] := rfl
          rw [this] at hln
          rw [wrap_i64_id (by omega) (by omega)]; omega
        simp -implicitDefEqProofs only [go_sem, reduceIte, Nat.reduceAdd, Nat.reduceSub, Nat.reduceMul, Nat.reduceLT, Nat.reduceLeDiff, Nat.reduceEqDiff, Nat.reduceBEq, Int.reduceLE, Int.reduceLT, Int.reduceToNat, Int.reduceMul, Int.reduceAdd, Int.reduceSub, Int.reduceNeg, Int.reduceEq, reduceCtorEq, Nat.reduceMod, f4, wl, wa, gt_iff_lt, Int.lt_irrefl, Int.natCast_zero]
        refine ⟨⟨by simp [okEs, T.one], by unfold room; omega⟩, h0 _ _ hnx ?_⟩
        simp -implicitDefEqProofs only [go_sem, reduceIte, Nat.reduceAdd, Nat.reduceSub, Nat.reduceMul, Nat.reduceLT, Nat.reduceLeDiff, Nat.reduceEqDiff, Nat.reduceBEq, Int.reduceLE, Int.reduceLT, Int.reduceToNat, Int.reduceMul, Int.reduceAdd, Int.reduceSub, Int.reduceNeg, Int.reduceEq, reduceCtorEq, Nat.reduceMod, scanG, scanV, Rec.cells, recsT]
        exact ⟨_, rfl⟩
      · have f4 : (((getV d0 d1 d2 d3 4).toNat : Int) != ((updV 0#32 (b0 :: b1 :: b2 :: b3 :: c0 :: c1 :: c2 :: c3 :: bs'.take (numL b0 b1 b2 b3))).toNat : Int)) = true := by
          rw [bne_iff_ne]
          intro e
          exact g4 (BitVec.eq_of_toNat_eq (by omega))
        simp -implicitDefEqProofs only [go_sem, reduceIte, Nat.reduceAdd, Nat.reduceSub, Nat.reduceMul, Nat.reduceLT, Nat.reduceLeDiff, Nat.reduceEqDiff, Nat.reduceBEq, Int.reduceLE, Int.reduceLT, Int.reduceToNat, Int.reduceMul, Int.reduceAdd, Int.reduceSub, Int.reduceNeg, Int.reduceEq, reduceCtorEq, Nat.reduceMod, f4]
        refine h1 _ (hnone fun h => g4 h.2.2.2) ?_
        simp -implicitDefEqProofs only [go_sem, reduceIte, Nat.reduceAdd, Nat.reduceSub, Nat.reduceMul, Nat.reduceLT, Nat.reduceLeDiff, Nat.reduceEqDiff, Nat.reduceBEq, Int.reduceLE, Int.reduceLT, Int.reduceToNat, Int.reduceMul, Int.reduceAdd, Int.reduceSub, Int.reduceNeg, Int.reduceEq, reduceCtorEq, Nat.reduceMod, scanE]
        exact ⟨_, rfl⟩
    · simp -implicitDefEqProofs only [go_sem, reduceIte, Nat.reduceAdd, Nat.reduceSub, Nat.reduceMul, Nat.reduceLT, Nat.reduceLeDiff, Nat.reduceEqDiff, Nat.reduceBEq, Int.reduceLE, Int.reduceLT, Int.reduceToNat, Int.reduceMul, Int.reduceAdd, Int.reduceSub, Int.reduceNeg, Int.reduceEq, reduceCtorEq, Nat.reduceMod]
      rfl
end Go.Proofs.Ytdpnjhooehadmaa.Pm

/-! PmFk -/
set_option linter.all false
set_option maxRecDepth 100000
namespace Go.Proofs.Ytdpnjhooehadmaa.Pm
open Go Go.RowKit

def scanB (C24 : C) : C := (.seq (.seq (.seq (.reg ([⟨some 11, .move (.tmp 0), none⟩, ⟨some 12, .call { callee := .builtin .len, args := #[(.tmp 11)], argTypes := #[22] }, none⟩, ⟨some 13, .binOp .gtr 3 (.tmp 12) (.const (.int .i64 20000)) 3, none⟩])) (.keep [0, 13])) c_frame_Scan_1) (.seq (.seq (.reg ([⟨some 5, .assign (.const (.slice none 0 0)), none⟩])) (.keep [0, 5])) (.seq (.seq (.reg ([⟨some 6, .alloc 100, none⟩])) (.keep [0, 5, 6])) (.seq (.seq (.reg ([⟨some 7, .assign (.const (.int .i64 0)), none⟩])) (.keep [0, 5, 6, 7])) (.seq .label C24)))))
theorem scanB_eq : c_frame_Scan_29 = scanB c_frame_Scan_24 := rfl
theorem s_frame_Scan_ok (bs : List (BitVec 8)) (hl : bs.length ≤ 20000) : Spec Try.prog 75 [.sl (bT bs)] [] (.tup [.t (.sl (recsT (scanL bs))) true, .t (.i .i64 (catR (scanL bs)).length) true, .t (.i .i64 0) true]) := by
  refine spec_k (hold mixed) b_frame_Scan [(.sl (recsT (scanL bs)), true), (.i .i64 (catR (scanL bs)).length, true), (.i .i64 0, true)] ?_
  simp -implicitDefEqProofs only [go_sem, reduceIte, Nat.reduceAdd, Nat.reduceSub, Nat.reduceMul, Nat.reduceLT, Nat.reduceLeDiff, Nat.reduceEqDiff, Nat.reduceBEq, Int.reduceLE, Int.reduceLT, Int.reduceToNat, Int.reduceMul, Int.reduceAdd, Int.reduceSub, Int.reduceNeg, Int.reduceEq, reduceCtorEq, Nat.reduceMod]
  refine scope_2 (fun n s => ∃ M r b1, cut [0, 5, 6, 7] 3 (adopt [(5, 2)] s) = scanG bs (M ++ [r]) M.length (.var (scanV r)) b1 ∧ ScanOK bs (M ++ [r]) ∧ scanF bs n (M ++ [r]) = scanL bs ∧ bs.length < n + (catR (M ++ [r])).length)
    (fun n s => (∃ M ver b0 b1, cut [0, 5, 6, 7] 3 (adopt [(5, 2)] s) = scanG bs M ver b0 b1 ∧ scanL bs = M) ∨ (∃ b0, cut [0, 5, 6, 7] 3 (adopt [(5, 2)] s) = scanE bs b0 ∧ scanL bs = [])) (by decide) ?_ ?_ ?_
  · have h1 : ((bs.length : Int) > 20000) = False := eq_false (by omega)
    rw [scanB_eq]
    generalize hC : c_frame_Scan_24 = C24
    simp -implicitDefEqProofs only [go_sem, reduceIte, Nat.reduceAdd, Nat.reduceSub, Nat.reduceMul, Nat.reduceLT, Nat.reduceLeDiff, Nat.reduceEqDiff, Nat.reduceBEq, Int.reduceLE, Int.reduceLT, Int.reduceToNat, Int.reduceMul, Int.reduceAdd, Int.reduceSub, Int.reduceNeg, Int.reduceEq, reduceCtorEq, Nat.reduceMod, h1, scanB]
    subst hC
    have hF0 : scanL bs = scanF bs (bs.length + 1) [] := rfl
    refine scan_first bs hl _ (fun r s' hr hs => ?_) (fun s' hr hs => ?_)
    · rw [gotoF_g]
      obtain ⟨b1, hs⟩ := hs
      have hln := (nextL_len hr (by simp [catR])).2
      refine ⟨bs.length, .inl ⟨rfl, [], r, b1, hs, scanOK_step (scanOK_nil bs) hr, ?_, ?_⟩⟩
      · rw [hF0, scanF, hr]
      · rw [hln]
        simp [catR]
        omega
    · rw [gotoF_g]
      obtain ⟨b0, hs⟩ := hs
      exact ⟨0, .inr ⟨rfl, .inr ⟨b0, hs, by rw [hF0, scanF, hr]⟩⟩⟩
  · rintro n s ⟨M, r, b1, hs, hok, hF, hn⟩
    refine ⟨3, ?_⟩
    have hle : (catR (M ++ [r])).length ≤ bs.length := by
      obtain ⟨q, hq⟩ := hok.bytes
      have := congrArg List.length hq
      rw [List.length_append] at this
      omega
    obtain ⟨n, rfl⟩ : ∃ k, n = k + 1 := ⟨n - 1, by omega⟩
    rw [hs]
    unfold c_frame_Scan_53
    rw [Wk_seq, Wk_skip, Rk_seq_n, scan_same]
    refine scan_round bs hl (M ++ [r]) hle (by simp) hok.ok M.length _ _ b1 _ (fun r' s' hr hs => ?_) (fun s' hr hs => ?_)
    · rw [gotoN_g]
      obtain ⟨b1, hs⟩ := hs
      have hln := (nextL_len hr hle).2
      refine ⟨n, Nat.lt_succ_self _, .inl ⟨rfl, M ++ [r], r', b1, ?_, scanOK_step hok hr, ?_, ?_⟩⟩
      · rw [hs]; simp
      · rw [← hF, scanF, hr]
      · rw [hln]; omega
    · rw [gotoN_g]
      obtain ⟨b0, b1, hs⟩ := hs
      exact ⟨0, Nat.succ_pos _, .inr ⟨rfl, .inl ⟨_, _, b0, b1, hs, by rw [← hF, scanF, hr]⟩⟩⟩
  · rintro n s (⟨M, ver, b0, b1, hs, hM⟩ | ⟨b0, hs, hM⟩)
    · refine ⟨3, ?_⟩
      rw [hs]
      have e1 : List.take M.length (recsT M) = recsT M := List.take_of_length_le (by rw [recsT_length]; exact Nat.le_refl _)
      simp -implicitDefEqProofs only [go_sem, reduceIte, Nat.reduceAdd, Nat.reduceSub, Nat.reduceMul, Nat.reduceLT, Nat.reduceLeDiff, Nat.reduceEqDiff, Nat.reduceBEq, Int.reduceLE, Int.reduceLT, Int.reduceToNat, Int.reduceMul, Int.reduceAdd, Int.reduceSub, Int.reduceNeg, Int.reduceEq, reduceCtorEq, Nat.reduceMod, scanG, recsT_length, hM, e1]
    · refine ⟨3, ?_⟩
      rw [hs]
      simp -implicitDefEqProofs only [go_sem, reduceIte, Nat.reduceAdd, Nat.reduceSub, Nat.reduceMul, Nat.reduceLT, Nat.reduceLeDiff, Nat.reduceEqDiff, Nat.reduceBEq, Int.reduceLE, Int.reduceLT, Int.reduceToNat, Int.reduceMul, Int.reduceAdd, Int.reduceSub, Int.reduceNeg, Int.reduceEq, reduceCtorEq, Nat.reduceMod, scanE, hM, catR_nil, Int.natCast_zero]
      rfl
end Go.Proofs.Ytdpnjhooehadmaa.Pm

/-! PmFl -/
set_option linter.all false
set_option maxRecDepth 100000
namespace Go.Proofs.Ytdpnjhooehadmaa.Pm
open Go Go.RowKit

end Go.Proofs.Ytdpnjhooehadmaa.Pm

/-! PmFm -/
set_option linter.all false
set_option maxRecDepth 100000
namespace Go.Proofs.Ytdpnjhooehadmaa.Pm
open Go Go.RowKit

/-- Records that are valid, with numbers one behind the other. -/
def follows : List Rec → Bool
  | [] => true
  | [r] => r.ok
  | r :: s :: l => r.ok && (decide (s.num = r.num + 1) && follows (s :: l))
def followsAt (l : List Rec) (k : Nat) : Bool := match l[k]? with
  | some r => r.ok && (match k with
    | 0 => true
    | j + 1 => match l[j]? with
      | some p => decide (r.num = p.num + 1)
      | none => true)
  | none => true
theorem follows_iff (l : List Rec) : follows l = true ↔ ∀ k, k < l.length → followsAt l k = true := by
  match l with
  | [] => simp [follows]
  | [r] =>
    simp only [follows]
    refine ⟨fun h k hk => ?_, fun h => ?_⟩
    · simp at hk; subst hk; simp [followsAt, h]
    · have := h 0 (by simp); simpa [followsAt] using this
  | r :: s :: l =>
    have ih := follows_iff (s :: l)
    simp only [follows, Bool.and_eq_true, decide_eq_true_eq, ih]
    refine ⟨fun ⟨h1, h2, h3⟩ k hk => ?_, fun h => ⟨?_, ?_, fun k hk => ?_⟩⟩
    · match k with
      | 0 => simp [followsAt, h1]
      | 1 =>
        have := h3 0 (by simp)
        simp only [followsAt] at this ⊢
        simp at this ⊢
        exact ⟨this, h2⟩
      | k + 2 =>
        have := h3 (k + 1) (by simpa using hk)
        simpa [followsAt] using this
    · have := h 0 (by simp); simpa [followsAt] using this
    · have := h 1 (by simp); simp [followsAt] at this; exact this.2
    · have := h (k + 1) (by simpa using hk)
      match k with
      | 0 => simp [followsAt] at this ⊢; exact this.1
      | k + 1 => simpa [followsAt] using this
end Go.Proofs.Ytdpnjhooehadmaa.Pm

/-! PmFqd -/
set_option linter.all false
namespace Go.Proofs.Ytdpnjhooehadmaa.Pm
open Go Go.RowKit

theorem follows_ok {l : List Rec} (h : follows l = true) : ∀ r ∈ l, r.ok = true := fun r hr => by
  obtain ⟨i, hi, rfl⟩ := List.mem_iff_getElem.1 hr
  have := (follows_iff l).1 h i hi
  simp only [followsAt, List.getElem?_eq_getElem hi, Bool.and_eq_true] at this
  exact this.1
theorem follows_row {l : List Rec} (h : follows l = true) (k : Nat) (hk : k + 1 < l.length) : l[k + 1].num = l[k].num + 1 := by
  have := (follows_iff l).1 h (k + 1) hk
  simp only [followsAt, List.getElem?_eq_getElem hk, List.getElem?_eq_getElem (show k < l.length by omega), Bool.and_eq_true, decide_eq_true_eq] at this
  exact this.2
theorem follows_of {l : List Rec} (h1 : ∀ r ∈ l, r.ok = true) (h2 : ∀ k (h : k + 1 < l.length), l[k + 1].num = l[k].num + 1) : follows l = true := by
  rw [follows_iff]
  intro k hk
  cases k with
  | zero => simp [followsAt, hk, h1 _ (List.getElem_mem hk)]
  | succ k =>
    simp only [followsAt, List.getElem?_eq_getElem hk, List.getElem?_eq_getElem (show k < l.length by omega), Bool.and_eq_true, decide_eq_true_eq]
    exact ⟨h1 _ (List.getElem_mem hk), h2 k hk⟩
/-- The first records of a row keep to bytes that begin with theirs. -/
theorem scanOK_take {l : List Rec} (h : follows l = true) (k : Nat) (bs : List (BitVec 8)) (hb : ∃ q, bs = catR (l.take k) ++ q) : ScanOK bs (l.take k) := by
  refine ⟨hb, fun r hr => follows_ok h r (List.mem_of_mem_take hr), fun j hj => ?_⟩
  rw [List.length_take] at hj
  rw [List.getElem_take, List.getElem_take]
  exact follows_row h j (by omega)
theorem nextL_none {bs : List (BitVec 8)} {m : List Rec} (h : oneL (bs.drop (catR m).length) = none) : nextL bs m = none := by
  unfold nextL
  rw [h]
/-- Less than the bytes of a record is no record. -/
theorem oneL_torn {r : Rec} (h : r.ok = true) {p : List (BitVec 8)} (hp : ∃ z, bytesL r = p ++ z) (hl : p.length < (bytesL r).length) : oneL p = none := by
  cases ho : oneL p with
  | none => rfl
  | some r' =>
    exfalso
    obtain ⟨z, hz⟩ := hp
    obtain ⟨h', q, hq⟩ := oneL_some ho
    have h1 := oneL_bytes h []
    have h2 := oneL_bytes h' (q ++ z)
    rw [List.append_nil, hz, hq, List.append_assoc, h2] at h1
    simp only [Option.some.injEq] at h1
    subst h1
    rw [hq, List.length_append] at hl
    omega
theorem oneL_nil : oneL [] = none := rfl
/-- A scan of the first bytes of records finds those that are there as a whole. -/
theorem scan_torn {l : List Rec} (h : follows l = true) {n k : Nat} (hn : n ≤ (catR l).length) (hk : k ≤ l.length) (h1 : (catR (l.take k)).length ≤ n) (h2 : ∀ (hk' : k < l.length), n < (catR (l.take (k + 1))).length) : scanL ((catR l).take n) = l.take k := by
  have hsplit : catR l = catR (l.take k) ++ catR (l.drop k) := by rw [← catR_append, List.take_append_drop]
  have htake : (catR l).take n = catR (l.take k) ++ (catR (l.drop k)).take (n - (catR (l.take k)).length) := by
    rw [hsplit, List.take_append, List.take_of_length_le h1]
  refine scanL_unique (scanOK_take h k _ ⟨_, htake⟩) (nextL_none ?_)
  rw [htake, List.drop_left]
  by_cases hk' : k < l.length
  · have h3 := h2 hk'
    have h4 : catR (l.drop k) = bytesL l[k] ++ catR (l.drop (k + 1)) := by
      rw [← List.getElem_cons_drop hk']
      unfold catR
      rw [List.map_cons, List.flatten_cons]
    rw [catR_step hk', List.length_append] at h3
    rw [h4, List.take_append_of_le_length (by omega)]
    refine oneL_torn (follows_ok h _ (List.getElem_mem hk')) ⟨(bytesL l[k]).drop (n - (catR (l.take k)).length), (List.take_append_drop _ _).symm⟩ ?_
    rw [List.length_take]
    omega
  · have : k = l.length := by omega
    subst this
    rw [List.drop_length]
    simp [catR, oneL_nil]
theorem scanL_follows (bs : List (BitVec 8)) : follows (scanL bs) = true := follows_of (scanL_ok bs).ok (scanL_ok bs).row
end Go.Proofs.Ytdpnjhooehadmaa.Pm
