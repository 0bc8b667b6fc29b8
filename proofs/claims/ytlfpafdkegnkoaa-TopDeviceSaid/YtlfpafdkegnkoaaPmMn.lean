/- Texts of this proof in one file: PmEo, PmEp, PmQk, PmQl, PmEq, PmEr, PmEs. No law of Go's is stated here. -/
import Derived.Test.YtlfpafdkegnkoaaPmMm
import Derived.Test.YtlfpafdkegnkoaaPmMd
import Derived.Test.YtlfpafdkegnkoaaPmMc
set_option linter.all false
set_option maxRecDepth 100000
set_option maxHeartbeats 400000
namespace Go.Proofs.Ytlfpafdkegnkoaa.Pm
open Go Go.RowKit
theorem natL_le8_take (n : Int) : ∀ k, k ≤ 8 → natL ((le8 n).take k) = (BitVec.ofInt 64 n).toNat % 2 ^ (8 * k)
  | 0, _ => by simp [natL, Nat.mod_one]
  | k + 1, h => by
    have hk : k < (le8 n).length := by rw [le8_len]; omega
    have e : (le8 n)[k] = byte64 n k := by simp [le8]
    rw [natL_take hk, natL_le8_take n k (by omega), e]
    unfold byte64
    rw [BitVec.toNat_ofNat, pow8_succ, Nat.mod_mul]
theorem natL_le8 (n : Int) : natL (le8 n) = (BitVec.ofInt 64 n).toNat := by
  have h := natL_le8_take n 8 (Nat.le_refl _)
  rw [List.take_of_length_le (by rw [le8_len]; exact Nat.le_refl _)] at h
  rw [h, Nat.mod_eq_of_lt (BitVec.isLt _)]
theorem rd8_le8 {n : Int} (h0 : -9223372036854775808 ≤ n) (h1 : n ≤ 9223372036854775807) (b : List (BitVec 8)) : rd8 (le8 n ++ b) = n := by
  unfold rd8
  rw [List.take_append_of_le_length (by rw [le8_len]; exact Nat.le_refl _), List.take_of_length_le (by rw [le8_len]; exact Nat.le_refl _), natL_le8, BitVec.toNat_ofInt, IntKind.wrap_i64]
  omega
theorem les_drop : ∀ (l : List Int) (k : Nat), (les l).drop (8 * k) = les (l.drop k)
  | [], k => by simp [les]
  | x :: l, 0 => by simp
  | x :: l, k + 1 => by
    rw [les_cons, List.drop_succ_cons, ← les_drop l k, show 8 * (k + 1) = (le8 x).length + 8 * k by rw [le8_len]; omega, ← List.drop_drop, List.drop_left]
theorem rd8_les {l : List Int} {k : Nat} (h : k < l.length) (hr : ∀ x ∈ l, -9223372036854775808 ≤ x ∧ x ≤ 9223372036854775807) : rd8 ((les l).drop (8 * k)) = l[k] := by
  rw [les_drop, List.drop_eq_getElem_cons h, les_cons]
  have := hr _ (List.getElem_mem h)
  exact rd8_le8 this.1 this.2 _
theorem st_range {c : List Int} (h : stOK c = true) : ∀ x ∈ c, -9223372036854775808 ≤ x ∧ x ≤ 9223372036854775807 := fun x hx => by
  obtain ⟨k, hk, rfl⟩ := List.mem_iff_getElem.1 hx
  have := stOK_at h hk
  omega
theorem base_pt {n : Int} {c : List Int} (h8 : c.length = 8) (hc : stOK c = true) (n0 : 0 ≤ n) (n1 : n ≤ 1000000000) : baseB (les (n :: c)) = (n, c, true) := by
  have hr : ∀ x ∈ n :: c, -9223372036854775808 ≤ x ∧ x ≤ 9223372036854775807 := fun x hx => by
    rcases List.mem_cons.1 hx with rfl | hx
    · omega
    · exact st_range hc x hx
  have e1 : rd8 (les (n :: c)) = n := by
    have := rd8_les (l := n :: c) (k := 0) (by simp) hr
    simpa using this
  have e2 : rdC (les (n :: c)) = c := by
    refine List.ext_getElem (by rw [rdC_len, h8]) fun k hk1 hk2 => ?_
    have := rd8_les (l := n :: c) (k := k + 1) (by simp; omega) hr
    simp only [rdC, List.getElem_map, List.getElem_range]
    rw [this]
    rfl
  unfold baseB
  rw [if_pos (by rw [les_len, List.length_cons, h8]), e1, e2]
  simp [n0, n1, hc]
theorem rd8_wr {m : Int × Int} (h0 : -9223372036854775808 ≤ m.2) (h1 : m.2 ≤ 9223372036854775807) : rd8 ((wrB m).drop 1) = m.2 := by
  have e : (wrB m).drop 1 = le8 m.2 ++ [] := by rw [List.append_nil]; rfl
  rw [e]
  exact rd8_le8 h0 h1 []
theorem byte_nat {n : Int} (h0 : 0 ≤ n) (h1 : n < 256) : (((BitVec.ofInt 8 n).toNat : Nat) : Int) = n := by
  rw [BitVec.toNat_ofInt]
  have : n % ((2 ^ 8 : Nat) : Int) = n := Int.emod_eq_of_lt h0 (by exact h1)
  rw [this]
  omega
theorem mv_wr {m : Int × Int} (h : mOK m = true) : mvOf (wrB m) = m := by
  obtain ⟨h0, h1, h2, h3⟩ := (mOK_iff m).1 h
  have e2 := rd8_wr (m := m) (by omega) (by omega)
  have e1 := byte_nat (n := m.1) h0 (by omega)
  obtain ⟨a, b⟩ := m
  unfold mvOf
  rw [e2]
  unfold wrB
  rw [List.getElem?_cons_zero, Option.getD_some, e1]
theorem applyV_one {c : List Int} {m : Int × Int} (hc : stOK c = true) (hm : mOK m = true) (hs : stOK (stepC c m) = true) : applyV c [m] = (stepC c m, 0) := by
  rw [applyV, if_pos hc, appK, if_pos hm, if_pos hs]
  rfl
theorem appK_st : ∀ (l : List (Int × Int)) (c : List Int), stOK c = true → (appK c l).2 = 0 → stOK (appK c l).1 = true
  | [], c, h, _ => h
  | m :: l, c, h, h2 => by
    unfold appK at h2 ⊢
    split at h2
    · rename_i g1
      rw [if_pos g1]
      split at h2
      · rename_i g2
        rw [if_pos g2]
        exact appK_st l _ g2 h2
      · cases h2
    · cases h2
theorem applyV_st {c : List Int} {l : List (Int × Int)} (h : (applyV c l).2 = 0) : stOK (applyV c l).1 = true := by
  unfold applyV at h ⊢
  split at h
  · rename_i g
    rw [if_pos g]
    exact appK_st l c g h
  · cases h
theorem redo_st : ∀ (rs : List Rec) (c : List Int), stOK c = true → stOK (redo c rs).1 = true
  | [], c, h => h
  | r :: rs, c, h => by
    unfold redo
    split
    · split
      · rename_i g
        exact redo_st rs _ (applyV_st g)
      · exact h
    · exact h
theorem redo_c1 {c : List Int} {r : Rec} {rs : List Rec} (h1 : r.data.length = 9) (h2 : (applyV c [mvOf r.data]).2 = 0) : redo c (r :: rs) = redo (applyV c [mvOf r.data]).1 rs := by rw [redo, if_pos h1, if_pos h2]
theorem redo_c0 {c : List Int} {r : Rec} {rs : List Rec} (h : ¬ (r.data.length = 9 ∧ (applyV c [mvOf r.data]).2 = 0)) : redo c (r :: rs) = (c, false) := by
  rw [redo]
  split
  · rename_i h1
    rw [if_neg fun h2 => h ⟨h1, h2⟩]
  · rfl
theorem redo_app : ∀ (a b : List Rec) (c : List Int), redo c (a ++ b) = if (redo c a).2 = true then redo (redo c a).1 b else redo c a
  | [], b, c => rfl
  | r :: a, b, c => by
    rw [List.cons_append]
    by_cases h : r.data.length = 9 ∧ (applyV c [mvOf r.data]).2 = 0
    · rw [redo_c1 h.1 h.2, redo_c1 h.1 h.2, redo_app a b]
    · rw [redo_c0 h, redo_c0 h]
      rfl
theorem redo_take {c : List Int} {rs : List Rec} (h : (redo c rs).2 = true) (k : Nat) : (redo c (rs.take k)).2 = true := by
  have e := redo_app (rs.take k) (rs.drop k) c
  rw [List.take_append_drop] at e
  rw [e] at h
  split at h
  · rename_i g; exact g
  · exact h
theorem redo_one {c : List Int} {m : Int × Int} {n : Int} (hc : stOK c = true) (hm : mOK m = true) (hs : stOK (stepC c m) = true) : redo c [⟨n, wrB m⟩] = (stepC c m, true) := by
  have e := applyV_one hc hm hs
  have h1 : (Rec.mk n (wrB m)).data.length = 9 := wrB_len m
  have h2 : mvOf (Rec.mk n (wrB m)).data = m := mv_wr hm
  rw [redo_c1 h1 (by rw [h2, e]), h2, e]
  rfl
def Jr.rest (j : Jr) : List Rec := j.l.recs.drop ((baseV j.s).1 - j.l.first).toNat
def Jr.at (j : Jr) (n : Int) : List Int := (redo (baseV j.s).2.1 (j.rest.take (n - (baseV j.s).1).toNat)).1
structure Jr.Facts (j : Jr) : Prop where
  n0 : 0 ≤ (baseV j.s).1
  n1 : (baseV j.s).1 ≤ 1000000000
  f0 : j.l.first ≤ (baseV j.s).1
  f1 : (baseV j.s).1 ≤ j.l.next
  c0 : stOK (baseV j.s).2.1 = true
  c8 : (baseV j.s).2.1.length = 8
  len : (j.rest.length : Int) = j.l.next - (baseV j.s).1
  redo : redo (baseV j.s).2.1 j.rest = (j.c, true)
  st : stOK j.c = true
  j8 : j.c.length = 8
  neat : j.s.neat
theorem facts {j : Jr} (h : j.ok) : j.Facts := by
  obtain ⟨h1, h2, h3, h4, h5, h6, h7⟩ := h
  obtain ⟨b0, b1, b2⟩ := baseV_in h3
  have b3 := baseV_len j.s
  have hst := redo_st j.rest (baseV j.s).2.1 b2
  have hl8 := redo_len j.rest (baseV j.s).2.1 b3
  rw [show Go.Proofs.Ytlfpafdkegnkoaa.Pm.redo (baseV j.s).2.1 j.rest = (j.c, true) from h7] at hst hl8
  have hn := h2.2.2.2.1
  refine ⟨b0, b1, h5, h6, b2, b3, ?_, h7, hst, hl8, h1, h4⟩
  unfold Jr.rest
  rw [List.length_drop]
  omega
theorem ok_fineJ {j : Jr} (h : j.ok) : j.fine := by
  have f := facts h
  exact ⟨ok_fine h.1, log_fine h.2.1, f.j8, st_range f.st⟩
set_option maxHeartbeats 2000000
theorem do_go {j : Jr} (h : j.ok) {m : Int × Int} (hm : mOK m = true) (hs : stOK (stepC j.c m) = true) (hn : j.l.next ≤ 1000000000) (hc : (j.l.dev.all.length : Int) + 21 ≤ j.l.dev.cap) :
    ∃ l2 : WLog, doJ j m = (⟨j.s, l2, stepC j.c m⟩, j.l.next, 0) ∧ (Jr.mk j.s l2 (stepC j.c m)).ok ∧ l2.first = j.l.first ∧ l2.next = j.l.next + 1 ∧ l2.recs = j.l.recs ++ [⟨j.l.next, wrB m⟩] ∧ l2.dev.syn = j.l.dev.syn ∧ l2.dev.cap = j.l.dev.cap ∧ l2.dev.all = j.l.dev.all ++ bytesL ⟨j.l.next, wrB m⟩ ∧ l2.dev.tail = j.l.dev.tail ++ bytesL ⟨j.l.next, wrB m⟩ := by
  have f := facts h
  have hall := all_eq h.2.1
  have hnx := h.2.1.2.2.2.1
  have hw9 := wrB_len m
  obtain ⟨a1, a2⟩ := lives_app (lives_own h.2.1) (d := wrB m) (by omega) (by omega) (by rw [← hall, hw9]; omega)
  rw [← hnx] at a1 a2
  have hA := applyV_one f.st hm hs
  refine ⟨⟨⟨j.l.dev.syn, j.l.dev.tail ++ bytesL ⟨j.l.next, wrB m⟩, j.l.dev.cap, false⟩, j.l.first, j.l.next + 1⟩, ?_, ?_, rfl, rfl, a2.recs, rfl, rfl, by simp [Dev.all], rfl⟩
  · rw [doJ_ok h (by rw [hA]) (by rw [a1]), a1, hA]
  · refine ⟨h.1, a2.ok, h.2.2.1, h.2.2.2.1, f.f0, ?_, ?_⟩
    · show (baseV j.s).1 ≤ j.l.next + 1
      have := f.f1
      omega
    · show redo (baseV j.s).2.1 ((WLog.recs _).drop ((baseV j.s).1 - j.l.first).toNat) = (stepC j.c m, true)
      have hk : ((baseV j.s).1 - j.l.first).toNat ≤ j.l.recs.length := by
        have := f.f1
        have := f.f0
        omega
      rw [a2.recs, List.drop_append_of_le_length hk, redo_app, show j.l.recs.drop ((baseV j.s).1 - j.l.first).toNat = j.rest from rfl, f.redo, if_pos rfl]
      exact redo_one f.st hm hs
theorem sync_go {j : Jr} (h : j.ok) : syncJ j = (⟨j.s, j.l.all, j.c⟩, 0) ∧ (Jr.mk j.s j.l.all j.c).ok := by
  obtain ⟨a1, a2⟩ := all_ok h.2.1
  refine ⟨by rw [syncJ_ok h, sync_all h.2.1], h.1, a1, h.2.2.1, h.2.2.2.1, h.2.2.2.2.1, h.2.2.2.2.2.1, ?_⟩
  show redo _ (j.l.all.recs.drop _) = _
  rw [a2]
  exact h.2.2.2.2.2.2
theorem base_new {s : Slt} {r : Rec} (h : newO s = some r) : baseV s = baseB r.data := by simp only [baseV, h]
theorem base_same {s t : Slt} (h : newO s = newO t) : baseV s = baseV t := by simp only [baseV, h]
theorem new_ok {s : Slt} {l : WLog} {c : List Int} {k : Int} (hs : s.neat) (hl : l.ok) (h8 : c.length = 8) (hc : stOK c = true) (hn : newO s = some ⟨k, les (l.next :: c)⟩) (n1 : l.next ≤ 1000000000) :
    baseV s = (l.next, c, true) ∧ (Jr.mk s l c).ok := by
  have b0 := (ok_bounds hl).1
  have hx := hl.2.2.2.1
  have hb : baseV s = (l.next, c, true) := by rw [base_new hn]; exact base_pt h8 hc (by omega) n1
  refine ⟨hb, hs.ok, hl, by rw [hb], hs.next, ?_, ?_, ?_⟩
  · show l.first ≤ (baseV s).1
    rw [hb]; simp only; omega
  · show (baseV s).1 ≤ l.next
    rw [hb]; exact Int.le_refl _
  · show redo (baseV s).2.1 (l.recs.drop ((baseV s).1 - l.first).toNat) = (c, true)
    rw [hb, List.drop_of_length_le (by simp only; omega)]
    rfl
theorem save_go {j : Jr} (h : j.ok) (hn : j.l.next ≤ 1000000000) (h1 : j.s.next ≤ 1000000000) (h2 : 84 ≤ j.s.d0.cap) (h3 : 84 ≤ j.s.d1.cap) :
    ∃ s2 : Slt, saveJ j = (⟨s2, j.l.none, j.c⟩, 0) ∧ (Jr.mk s2 j.l.none j.c).ok ∧ baseV s2 = (j.l.next, j.c, true) ∧ s2.next = j.s.next + 1 ∧ s2.d0.cap = j.s.d0.cap ∧ s2.d1.cap = j.s.d1.cap ∧ s2.neat ∧ newO s2 = some ⟨j.s.next, ptB j⟩ ∧ j.s.ask (ptB j) = 0 := by
  have f := facts h
  have h9 := ptB_len f.j8
  have ha : j.s.ask (ptB j) = 0 := by
    have hd : (12 + (ptB j).length : Int) ≤ j.s.dev.cap := by
      rw [h9]
      unfold Slt.dev
      split <;> omega
    simp only [Slt.ask, if_pos h.1, if_pos (show (ptB j).length ≤ 1000 by omega), if_pos h1, if_pos hd]
  obtain ⟨g1, g2⟩ := save_neat f.neat ha
  have hS : saveS j.s (ptB j) = ((j.s.step (bytesL ⟨j.s.next, ptB j⟩) 3).setN (j.s.next + 1), j.s.next, 0) := by rw [saveS, if_pos ha]
  have hk := none_ok h.2.1
  obtain ⟨e1, e2⟩ := new_ok (l := j.l.none) g1 hk.1 f.j8 f.st g2 hn
  refine ⟨(j.s.step (bytesL ⟨j.s.next, ptB j⟩) 3).setN (j.s.next + 1), ?_, e2, e1, rfl, ?_, ?_, g1, g2, ha⟩
  · rw [saveJ_ok h (by rw [hS]), hS]
  · have hbl : (bytesL ⟨j.s.next, ptB j⟩).length = 84 := by rw [bytesL_length]; simp only; omega
    show (j.s.step _ 3).d0.cap = _
    unfold Slt.step
    split
    · rw [show (⟨stepD j.s.d0 (bytesL ⟨j.s.next, ptB j⟩) 3, j.s.d1, j.s.next⟩ : Slt).d0 = stepD j.s.d0 (bytesL ⟨j.s.next, ptB j⟩) 3 from rfl, stepD_3 h.1.1 (by omega)]
    · rfl
  · have hbl : (bytesL ⟨j.s.next, ptB j⟩).length = 84 := by rw [bytesL_length]; simp only; omega
    show (j.s.step _ 3).d1.cap = _
    unfold Slt.step
    split
    · rfl
    · rw [show (⟨j.s.d0, stepD j.s.d1 (bytesL ⟨j.s.next, ptB j⟩) 3, j.s.next⟩ : Slt).d1 = stepD j.s.d1 (bytesL ⟨j.s.next, ptB j⟩) 3 from rfl, stepD_3 h.1.2.1 (by omega)]
theorem open_at {d : Dev} {n f : Int} {rs : List Rec} (hc : d.check = 0) (h0 : 0 ≤ n) (h1 : n ≤ 1000000000) (hs : scanL d.all = rs) (hr : Row f rs) (hn : f ≤ n) :
    openW d n = if n ≤ f + rs.length then (logOf d.cap f rs, 0) else (logOf d.cap n [], 0) := by
  cases rs with
  | nil =>
    rw [openW_none hc h0 h1 hs]
    split
    · rename_i g
      simp at g
      obtain rfl : n = f := by omega
      simp [logOf, cutD, catR]
    · simp [logOf, cutD, catR]
  | cons r rs =>
    have hlast : ((r :: rs).getLast (List.cons_ne_nil r rs)).num = f + rs.length := by
      rw [List.getLast_eq_getElem, follows_num hr.follows _ (by simp), hr.first (by simp)]
      simp
    have hu := scan_used d.all
    rw [hs] at hu
    have hf : r.num = f := hr.first (by simp)
    split
    · rename_i g
      rw [List.length_cons] at g
      rw [openW_some hc h0 h1 hs (by omega), hlast, hf]
      simp only [logOf, cutD, hu, List.length_cons]
      rw [show f + (rs.length : Int) + 1 = f + ((rs.length + 1 : Nat) : Int) by omega]
    · rename_i g
      rw [List.length_cons] at g
      rw [openW_short hc h0 h1 hs (by omega)]
      simp [logOf, cutD, catR]
def outJ (j : Jr) : Jr := ⟨(openS j.s).1, (openW j.l.dev (baseV (openS j.s).1).1).1, (replayV (baseV (openS j.s).1).2.1 (openW j.l.dev (baseV (openS j.s).1).1).1 (baseV (openS j.s).1).1).1⟩
def recoverJ (j : Jr) : Jr × Int × Int :=
  if (openS j.s).2 = 0 ∧ j.l.dev.check = 0 then (if (baseV (openS j.s).1).2.2 = true then (if (outJ j).ok then (outJ j, (outJ j).l.next, 0) else (zeroJ, 0, 8)) else (zeroJ, 0, 8)) else (zeroJ, 0, 8)
theorem recover_of {d : Jr} {n f cap : Int} {c c2 : List Int} {rs : List Rec} (h0 : d.s.d0.check = 0) (h1 : d.s.d1.check = 0) (hb : baseV (openS d.s).1 = (n, c, true)) (hc : d.l.dev.check = 0) (hcap : d.l.dev.cap = cap)
    (hs : scanL d.l.dev.all = rs) (hr : Row f rs) (hf : 0 ≤ f) (hn : f ≤ n) (hre : redo c (rs.drop (n - f).toNat) = (c2, true)) :
    ∃ r : Jr, recoverJ d = (r, max n (f + rs.length), 0) ∧ r.ok ∧ r.l.next = max n (f + rs.length) ∧ r.c = c2 ∧ r.s = (openS d.s).1 ∧ r.l = (if n ≤ f + rs.length then logOf cap f rs else logOf cap n []) := by
  have hbi := baseV_in (s := (openS d.s).1) (by rw [hb])
  rw [hb] at hbi
  simp only at hbi
  obtain ⟨b0, b1, b2⟩ := hbi
  have ho := open_at hc b0 b1 hs hr hn
  rw [hcap] at ho
  obtain ⟨k0, k1, k2⟩ := d.l.dev.ok_of hc
  have hlen : (catR rs).length ≤ d.l.dev.all.length := by
    obtain ⟨q, hq⟩ := (scanL_ok d.l.dev.all).bytes
    rw [hs] at hq
    rw [hq, List.length_append]
    omega
  have hall : d.l.dev.all.length = d.l.dev.syn.length + d.l.dev.tail.length := by simp [Dev.all]
  have hes : openS d.s = ((openS d.s).1, 0) := by
    unfold openS
    rw [if_pos ⟨h0, h1⟩]
  have hsk := openS_ok h0 h1
  have hsn : (openS d.s).1.next = nextO (openS d.s).1 := by
    unfold openS
    rw [if_pos ⟨h0, h1⟩]
    rfl
  have key : ∀ l2 : WLog, openW d.l.dev n = (l2, 0) → l2.ok → l2.first ≤ n → n ≤ l2.next → redo c (l2.recs.drop (n - l2.first).toNat) = (c2, true) → l2.next = max n (f + rs.length) →
      ∃ r : Jr, recoverJ d = (r, max n (f + rs.length), 0) ∧ r.ok ∧ r.l.next = max n (f + rs.length) ∧ r.c = c2 ∧ r.s = (openS d.s).1 ∧ r.l = l2 := by
    intro l2 g1 g2 g3 g4 g5 g6
    have hrp : replayV c l2 n = (c2, true) := by rw [replayV, if_pos ⟨g3, g4⟩, g5]
    have ho : outJ d = ⟨(openS d.s).1, l2, c2⟩ := by
      unfold outJ
      rw [hb]
      simp only
      rw [g1]
      simp only
      rw [hrp]
    have hk : (outJ d).ok := by
      rw [ho]
      refine ⟨hsk, g2, by rw [hb], hsn, ?_, ?_, ?_⟩
      · show l2.first ≤ (baseV (openS d.s).1).1
        rw [hb]; exact g3
      · show (baseV (openS d.s).1).1 ≤ l2.next
        rw [hb]; exact g4
      · show redo (baseV (openS d.s).1).2.1 (l2.recs.drop ((baseV (openS d.s).1).1 - l2.first).toNat) = (c2, true)
        rw [hb]; exact g5
    refine ⟨outJ d, ?_, hk, by rw [ho]; exact g6, by rw [ho], by rw [ho], by rw [ho]⟩
    rw [recoverJ, if_pos ⟨by rw [hes], hc⟩, if_pos (by rw [hb]), if_pos hk]
    rw [ho, show (Jr.mk (openS d.s).1 l2 c2).l.next = l2.next from rfl, g6]
  by_cases g : n ≤ f + rs.length
  · rw [if_pos g] at ho ⊢
    have hk := log_ok (cap := cap) hr (by omega) (by omega) (by omega) hf (by omega)
    exact key _ ho hk.1 hn g (by rw [hk.2]; exact hre) (by show f + (rs.length : Int) = _; omega)
  · rw [if_neg g] at ho ⊢
    have hk := log_ok (cap := cap) (n := n) (rs := []) ⟨by rfl, fun h => by simp at h⟩ (by omega) (by omega) (by show (0 : Int) ≤ cap; omega) b0 (by omega)
    refine key _ ho hk.1 (Int.le_refl _) (by show n ≤ n + (0 : Nat); omega) ?_ (by show n + ((0 : Nat) : Int) = _; omega)
    rw [hk.2]
    rw [List.drop_of_length_le (by omega)] at hre
    simpa using hre
def r_journal_CrashQ_0 : List I := [⟨some 8, .assign (.tmp 18), none⟩]
@[go_sem ↓] def uq157 := @unI _ _ r_journal_CrashQ_0.eq_1
def kc117 : C := (.seq (.seq (.reg ([⟨some 21, .build 34 #[], none⟩, ⟨some 22, .move (.tmp 8), none⟩, ⟨none, .store 34 (.tmp 6) (.tmp 21), none⟩, ⟨some 7, .assign (.tmp 22), none⟩])) (.keep [6, 7])) .ret)
@[go_sem ↓] def uq158 := @unC _ _ kc117.eq_1
def kc118 : C := (.cond (.tmp 20) kc117 .skip)
@[go_sem ↓] def uq159 := @unC _ _ kc118.eq_1
def kc119 : C := (.seq (.seq (.reg ([⟨some 19, .move (.tmp 8), none⟩, ⟨some 20, .binOp .neq 35 (.tmp 19) (.const (.int .i64 0)) 35, none⟩])) (.keep [1, 2, 3, 6, 8, 20])) kc118)
@[go_sem ↓] def uq160 := @unC _ _ kc119.eq_1
def kc120 : C := (.seq (.seq (.reg ([⟨some 29, .build 34 #[], none⟩, ⟨none, .store 34 (.tmp 6) (.tmp 29), none⟩, ⟨some 7, .assign (.const (.int .i64 2)), none⟩])) (.keep [6, 7])) .ret)
@[go_sem ↓] def uq161 := @unC _ _ kc120.eq_1
def kc121 : C := (.cond (.tmp 28) kc120 .skip)
@[go_sem ↓] def uq162 := @unC _ _ kc121.eq_1
def r_journal_CrashQ_6 : List I := [⟨some 38, .move (.tmp 40), none⟩, ⟨some 41, .extract (.tmp 38) 0, none⟩, ⟨some 42, .extract (.tmp 38) 1, none⟩, ⟨none, .store 31 (.tmp 9) (.tmp 41), none⟩]
@[go_sem ↓] def uq163 := @unI _ _ r_journal_CrashQ_6.eq_1
def kc122 : C := (.seq (.reg (⟨some 39, .load 31 (.tmp 9), none⟩ :: ⟨some 40, .call { callee := .value (.func 28), args := #[(.tmp 39)], argTypes := #[31] }, none⟩ :: r_journal_CrashQ_6)) (.keep [1, 2, 6, 9, 11, 12, 13]))
@[go_sem ↓] def uq164 := @unC _ _ kc122.eq_1
def kc123 : C := (.cond (.tmp 37) kc122 .skip)
@[go_sem ↓] def uq165 := @unC _ _ kc123.eq_1
def kc124 : C := (.seq (.reg ([⟨some 45, .move (.tmp 2), none⟩, ⟨some 11, .assign (.const (.int .i64 0)), none⟩, ⟨none, .store 3 (.tmp 12) (.tmp 45), none⟩])) (.keep [1, 6, 9, 11, 13]))
@[go_sem ↓] def uq166 := @unC _ _ kc124.eq_1
def kc125 : C := (.cond (.tmp 44) kc124 .skip)
@[go_sem ↓] def uq167 := @unC _ _ kc125.eq_1
def r_journal_CrashQ_11 : List I := [⟨some 46, .move (.tmp 52), none⟩, ⟨some 53, .extract (.tmp 46) 0, none⟩, ⟨some 54, .extract (.tmp 46) 1, none⟩, ⟨some 14, .alloc 29, none⟩, ⟨none, .store 29 (.tmp 14) (.tmp 53), none⟩, ⟨some 15, .assign (.tmp 54), none⟩]
@[go_sem ↓] def uq168 := @unI _ _ r_journal_CrashQ_11.eq_1
def kc126 : C := (.seq (.seq (.reg ([⟨some 57, .build 34 #[], none⟩, ⟨some 58, .move (.tmp 15), none⟩, ⟨none, .store 34 (.tmp 6) (.tmp 57), none⟩, ⟨some 7, .assign (.tmp 58), none⟩])) (.keep [6, 7])) .ret)
@[go_sem ↓] def uq169 := @unC _ _ kc126.eq_1
def kc127 : C := (.cond (.tmp 56) kc126 .skip)
@[go_sem ↓] def uq170 := @unC _ _ kc127.eq_1
def r_journal_CrashQ_14 : List I := [⟨some 61, .move (.tmp 65), none⟩, ⟨some 66, .extract (.tmp 61) 0, none⟩, ⟨some 67, .extract (.tmp 61) 1, none⟩, ⟨none, .store 31 (.tmp 9) (.tmp 66), none⟩]
@[go_sem ↓] def uq171 := @unI _ _ r_journal_CrashQ_14.eq_1
def kc128 : C := (.seq (.reg (⟨some 62, .load 31 (.tmp 9), none⟩ :: ⟨some 63, .fieldAddr 31 (.tmp 9) 2, none⟩ :: ⟨some 64, .load 3 (.tmp 63), none⟩ :: ⟨some 65, .call { callee := .value (.func 32), args := #[(.tmp 62), (.tmp 64)], argTypes := #[31, 3] }, none⟩ :: r_journal_CrashQ_14)) (.keep [6, 9, 11, 14]))
@[go_sem ↓] def uq172 := @unC _ _ kc128.eq_1
def kc129 : C := (.cond (.tmp 60) kc128 .skip)
@[go_sem ↓] def uq173 := @unC _ _ kc129.eq_1
def r_journal_CrashQ_17 : List I := [⟨some 68, .move (.tmp 72), none⟩, ⟨some 73, .extract (.tmp 68) 0, none⟩, ⟨some 74, .extract (.tmp 68) 1, none⟩, ⟨some 16, .alloc 26, none⟩, ⟨none, .store 26 (.tmp 16) (.tmp 73), none⟩, ⟨some 15, .assign (.tmp 74), none⟩]
@[go_sem ↓] def uq174 := @unI _ _ r_journal_CrashQ_17.eq_1
def kc130 : C := (.seq (.seq (.reg ([⟨some 77, .build 34 #[], none⟩, ⟨some 78, .move (.tmp 15), none⟩, ⟨none, .store 34 (.tmp 6) (.tmp 77), none⟩, ⟨some 7, .assign (.tmp 78), none⟩])) (.keep [6, 7])) .ret)
@[go_sem ↓] def uq175 := @unC _ _ kc130.eq_1
def kc131 : C := (.cond (.tmp 76) kc130 .skip)
@[go_sem ↓] def uq176 := @unC _ _ kc131.eq_1
def kc132 : C := (.seq (.seq (.reg ([⟨some 81, .load 29 (.tmp 14), none⟩, ⟨some 82, .load 31 (.tmp 9), none⟩, ⟨some 83, .build 34 #[(0, (.tmp 81)), (1, (.tmp 82))], none⟩, ⟨none, .store 34 (.tmp 6) (.tmp 83), none⟩, ⟨some 7, .assign (.const (.int .i64 0)), none⟩])) (.keep [6, 7])) .ret)
@[go_sem ↓] def uq177 := @unC _ _ kc132.eq_1
def kc133 : C := (.seq (.seq (.reg ([⟨some 79, .load 26 (.tmp 16), none⟩, ⟨some 80, .fieldAddr 31 (.tmp 9) 0, none⟩, ⟨none, .store 26 (.tmp 80) (.tmp 79), none⟩])) (.keep [6, 9, 14])) kc132)
@[go_sem ↓] def uq178 := @unC _ _ kc133.eq_1
def kc134 : C := (.seq (.seq (.seq (.reg ([⟨some 75, .move (.tmp 15), none⟩, ⟨some 76, .binOp .neq 35 (.tmp 75) (.const (.int .i64 0)) 35, none⟩])) (.keep [6, 9, 14, 15, 16, 76])) kc131) kc133)
@[go_sem ↓] def uq179 := @unC _ _ kc134.eq_1
def kc135 : C := (.seq (.seq (.reg (⟨some 69, .fieldAddr 31 (.tmp 9) 0, none⟩ :: ⟨some 70, .load 26 (.tmp 69), none⟩ :: ⟨some 71, .move (.tmp 11), none⟩ :: ⟨some 72, .call { callee := .value (.func 52), args := #[(.tmp 70), (.tmp 71)], argTypes := #[26, 3] }, none⟩ :: r_journal_CrashQ_17)) (.keep [6, 9, 14, 15, 16])) kc134)
@[go_sem ↓] def uq180 := @unC _ _ kc135.eq_1
def kc136 : C := (.seq (.seq (.seq (.reg ([⟨some 59, .move (.tmp 1), none⟩, ⟨some 60, .binOp .eql 3 (.tmp 59) (.const (.int .i64 5)) 3, none⟩])) (.keep [6, 9, 11, 14, 60])) kc129) kc135)
@[go_sem ↓] def uq181 := @unC _ _ kc136.eq_1
def kc137 : C := (.seq (.seq (.seq (.reg ([⟨some 55, .move (.tmp 15), none⟩, ⟨some 56, .binOp .neq 35 (.tmp 55) (.const (.int .i64 0)) 35, none⟩])) (.keep [1, 6, 9, 11, 14, 15, 56])) kc127) kc136)
@[go_sem ↓] def uq182 := @unC _ _ kc137.eq_1
def kc138 : C := (.seq (.seq (.reg (⟨some 47, .move (.tmp 13), none⟩ :: ⟨some 48, .move (.tmp 1), none⟩ :: ⟨some 49, .binOp .sub 3 (.tmp 48) (.const (.int .i64 1)) 3, none⟩ :: ⟨some 50, .call { callee := .builtin .min, args := #[(.tmp 49), (.const (.int .i64 3))], argTypes := #[3, 3] }, none⟩ :: ⟨some 51, .call { callee := .builtin .max, args := #[(.const (.int .i64 0)), (.tmp 50)], argTypes := #[3, 3] }, none⟩ :: ⟨some 52, .call { callee := .value (.tmp 47), args := #[(.tmp 51)], argTypes := #[3] }, none⟩ :: r_journal_CrashQ_11)) (.keep [1, 6, 9, 11, 14, 15])) kc137)
@[go_sem ↓] def uq183 := @unC _ _ kc138.eq_1
def kc139 : C := (.seq (.seq (.seq (.reg ([⟨some 43, .move (.tmp 1), none⟩, ⟨some 44, .binOp .eql 3 (.tmp 43) (.const (.int .i64 3)) 3, none⟩])) (.keep [1, 2, 6, 9, 11, 12, 13, 44])) kc125) kc138)
@[go_sem ↓] def uq184 := @unC _ _ kc139.eq_1
def kc140 : C := (.seq (.seq (.seq (.reg ([⟨some 36, .move (.tmp 1), none⟩, ⟨some 37, .binOp .gtr 3 (.tmp 36) (.const (.int .i64 0)) 3, none⟩])) (.keep [1, 2, 6, 9, 11, 12, 13, 37])) kc123) kc139)
@[go_sem ↓] def uq185 := @unC _ _ kc140.eq_1
def kc141 : C := (.seq (.seq (.reg ([⟨some 35, .makeFunc (.func 50) #[] #[(.tmp 10), (.tmp 3), (.tmp 12)], none⟩, ⟨some 13, .assign (.tmp 35), none⟩])) (.keep [1, 2, 6, 9, 11, 12, 13])) kc140)
@[go_sem ↓] def uq186 := @unC _ _ kc141.eq_1
def kc142 : C := (.seq (.seq (.reg ([⟨some 34, .move (.tmp 2), none⟩, ⟨some 12, .alloc 3, none⟩, ⟨some 11, .assign (.tmp 34), none⟩, ⟨none, .store 3 (.tmp 12) (.const (.int .i64 0)), none⟩])) (.keep [1, 2, 3, 6, 9, 10, 11, 12])) kc141)
@[go_sem ↓] def uq187 := @unC _ _ kc142.eq_1
def kc143 : C := (.seq (.seq (.draw ([⟨⟨some 30, .fieldAddr 34 (.tmp 3) 1, none⟩, []⟩, ⟨⟨some 31, .load 31 (.tmp 30), none⟩, []⟩, ⟨⟨some 32, .fieldAddr 34 (.tmp 3) 0, none⟩, [0, 1]⟩, ⟨⟨some 33, .load 29 (.tmp 32), none⟩, [0, 1]⟩, ⟨⟨some 9, .alloc 31, none⟩, [0, 1, 2, 3]⟩, ⟨⟨some 10, .alloc 29, none⟩, [0, 1, 2, 3, 4]⟩, ⟨⟨none, .store 31 (.tmp 9) (.tmp 31), none⟩, [2, 3]⟩, ⟨⟨none, .store 29 (.tmp 10) (.tmp 33), none⟩, []⟩])) (.keep [1, 2, 3, 6, 9, 10])) kc142)
@[go_sem ↓] def uq188 := @unC _ _ kc143.eq_1
def kc144 : C := (.seq (.seq (.seq (.reg ([⟨some 23, .move (.tmp 1), none⟩, ⟨some 24, .binOp .lss 3 (.tmp 23) (.const (.int .i64 0)) 3, none⟩, ⟨some 25, .move (.tmp 24), none⟩, ⟨some 26, .move (.tmp 1), some (25, false)⟩, ⟨some 27, .binOp .gtr 3 (.tmp 26) (.const (.int .i64 5)) 3, some (25, false)⟩, ⟨some 28, .pick (.tmp 25) (.const (.bool true)) (.tmp 27), none⟩])) (.keep [1, 2, 3, 6, 28])) kc121) kc143)
@[go_sem ↓] def uq189 := @unC _ _ kc144.eq_1
def kc145 : C := (.seq (.seq (.seq (.reg (⟨some 17, .load 34 (.tmp 3), none⟩ :: ⟨some 18, .call { callee := .value (.func 23), args := #[(.tmp 17)], argTypes := #[34] }, none⟩ :: r_journal_CrashQ_0)) (.keep [1, 2, 3, 6, 8])) kc119) kc144)
@[go_sem ↓] def uq190 := @unC _ _ kc145.eq_1
def c_journal_Crash : C := (.seq (.seq (.reg ([⟨some 3, .box 34 (.tmp 0), none⟩, ⟨some 6, .alloc 34, none⟩, ⟨some 7, .assign (.const (.int .i64 0)), none⟩])) (.keep [1, 2, 3, 6])) kc145)
attribute [go_sem ↓] c_journal_Crash
def h_journal_Crash : List Hint := [⟨[], [1, 2, 3, 6], []⟩, ⟨[], [1, 2, 3, 6, 8], []⟩, ⟨[], [1, 2, 3, 6, 8, 20], []⟩, ⟨[], [6, 7], []⟩, ⟨[], [1, 2, 3, 6, 28], []⟩, ⟨[], [6, 7], []⟩, ⟨[], [1, 2, 3, 6, 9, 10], []⟩, ⟨[], [1, 2, 3, 6, 9, 10, 11, 12], []⟩, ⟨[], [1, 2, 6, 9, 11, 12, 13], []⟩, ⟨[], [1, 2, 6, 9, 11, 12, 13, 37], []⟩, ⟨[], [1, 2, 6, 9, 11, 12, 13], []⟩, ⟨[], [1, 2, 6, 9, 11, 12, 13, 44], []⟩, ⟨[], [1, 6, 9, 11, 13], []⟩, ⟨[], [1, 6, 9, 11, 14, 15], []⟩, ⟨[], [1, 6, 9, 11, 14, 15, 56], []⟩, ⟨[], [6, 7], []⟩, ⟨[], [6, 9, 11, 14, 60], []⟩, ⟨[], [6, 9, 11, 14], []⟩, ⟨[], [6, 9, 14, 15, 16], []⟩, ⟨[], [6, 9, 14, 15, 16, 76], []⟩, ⟨[], [6, 7], []⟩, ⟨[], [6, 9, 14], []⟩, ⟨[], [6, 7], []⟩]
theorem b_journal_Crash : Body Try.prog 18 [] h_journal_Crash c_journal_Crash 84 [.cell 6 34, .tmp 7] := body_of Try.func18 (by kernel_rfl) (by kernel_rfl) (by kernel_rfl) (by kernel_rfl)
def r_journal_Recover_0 : List I := [⟨some 13, .move (.tmp 16), none⟩, ⟨some 17, .extract (.tmp 13) 0, none⟩, ⟨some 18, .extract (.tmp 13) 1, none⟩, ⟨some 5, .alloc 29, none⟩, ⟨none, .store 29 (.tmp 5) (.tmp 17), none⟩, ⟨some 6, .assign (.tmp 18), none⟩]
@[go_sem ↓] def uq191 := @unI _ _ r_journal_Recover_0.eq_1
def r_journal_Recover_1 : List I := [⟨some 26, .binOp .neq 35 (.tmp 25) (.const (.int .i64 0)) 35, some (21, false)⟩, ⟨some 27, .pick (.tmp 21) (.const (.bool true)) (.tmp 26), none⟩]
@[go_sem ↓] def uq192 := @unI _ _ r_journal_Recover_1.eq_1
def kc146 : C := (.seq (.seq (.reg ([⟨some 28, .build 34 #[], none⟩, ⟨none, .store 34 (.tmp 2) (.tmp 28), none⟩, ⟨some 3, .assign (.const (.int .i64 0)), none⟩, ⟨some 4, .assign (.const (.int .i64 8)), none⟩])) (.keep [2, 3, 4])) .ret)
@[go_sem ↓] def uq193 := @unC _ _ kc146.eq_1
def kc147 : C := (.cond (.tmp 27) kc146 .skip)
@[go_sem ↓] def uq194 := @unC _ _ kc147.eq_1
def r_journal_Recover_4 : List I := [⟨some 29, .move (.tmp 31), none⟩, ⟨some 32, .extract (.tmp 29) 0, none⟩, ⟨some 33, .extract (.tmp 29) 1, none⟩, ⟨some 34, .extract (.tmp 29) 2, none⟩, ⟨some 8, .alloc 32, none⟩, ⟨some 7, .assign (.tmp 32), none⟩, ⟨none, .store 32 (.tmp 8) (.tmp 33), none⟩, ⟨some 9, .assign (.tmp 34), none⟩]
@[go_sem ↓] def uq195 := @unI _ _ r_journal_Recover_4.eq_1
def kc148 : C := (.seq (.seq (.reg ([⟨some 37, .build 34 #[], none⟩, ⟨none, .store 34 (.tmp 2) (.tmp 37), none⟩, ⟨some 3, .assign (.const (.int .i64 0)), none⟩, ⟨some 4, .assign (.const (.int .i64 8)), none⟩])) (.keep [2, 3, 4])) .ret)
@[go_sem ↓] def uq196 := @unC _ _ kc148.eq_1
def kc149 : C := (.cond (.tmp 36) kc148 .skip)
@[go_sem ↓] def uq197 := @unC _ _ kc149.eq_1
def r_journal_Recover_7 : List I := [⟨some 38, .move (.tmp 43), none⟩, ⟨some 44, .extract (.tmp 38) 0, none⟩, ⟨some 45, .extract (.tmp 38) 1, none⟩, ⟨some 10, .alloc 31, none⟩, ⟨none, .store 31 (.tmp 10) (.tmp 44), none⟩, ⟨some 11, .assign (.tmp 45), none⟩]
@[go_sem ↓] def uq198 := @unI _ _ r_journal_Recover_7.eq_1
def r_journal_Recover_8 : List I := [⟨some 46, .move (.tmp 50), none⟩, ⟨some 51, .extract (.tmp 46) 0, none⟩, ⟨some 52, .extract (.tmp 46) 1, none⟩, ⟨none, .store 32 (.tmp 8) (.tmp 51), none⟩, ⟨some 9, .assign (.tmp 52), none⟩]
@[go_sem ↓] def uq199 := @unI _ _ r_journal_Recover_8.eq_1
def kc150 : C := (.seq (.seq (.reg ([⟨some 55, .build 34 #[], none⟩, ⟨none, .store 34 (.tmp 2) (.tmp 55), none⟩, ⟨some 3, .assign (.const (.int .i64 0)), none⟩, ⟨some 4, .assign (.const (.int .i64 8)), none⟩])) (.keep [2, 3, 4])) .ret)
@[go_sem ↓] def uq200 := @unC _ _ kc150.eq_1
def kc151 : C := (.cond (.tmp 54) kc150 .skip)
@[go_sem ↓] def uq201 := @unC _ _ kc151.eq_1
def kc152 : C := (.seq (.seq (.reg ([⟨some 53, .move (.tmp 9), none⟩, ⟨some 54, .unOp .not 4 (.tmp 53), none⟩])) (.keep [2, 5, 8, 10, 54])) kc151)
@[go_sem ↓] def uq202 := @unC _ _ kc152.eq_1
def r_journal_Recover_12 : List I := [⟨some 62, .binOp .neq 35 (.tmp 61) (.const (.int .i64 0)) 35, none⟩]
@[go_sem ↓] def uq203 := @unI _ _ r_journal_Recover_12.eq_1
def kc153 : C := (.seq (.seq (.reg ([⟨some 63, .build 34 #[], none⟩, ⟨none, .store 34 (.tmp 2) (.tmp 63), none⟩, ⟨some 3, .assign (.const (.int .i64 0)), none⟩, ⟨some 4, .assign (.const (.int .i64 8)), none⟩])) (.keep [2, 3, 4])) .ret)
@[go_sem ↓] def uq204 := @unC _ _ kc153.eq_1
def kc154 : C := (.cond (.tmp 62) kc153 .skip)
@[go_sem ↓] def uq205 := @unC _ _ kc154.eq_1
def kc155 : C := (.seq (.seq (.draw ([⟨⟨some 64, .load 34 (.tmp 12), none⟩, []⟩, ⟨⟨some 65, .fieldAddr 31 (.tmp 10) 2, none⟩, [0]⟩, ⟨⟨some 66, .load 3 (.tmp 65), none⟩, [0]⟩, ⟨⟨none, .store 34 (.tmp 2) (.tmp 64), none⟩, [1, 2]⟩, ⟨⟨some 3, .assign (.tmp 66), none⟩, []⟩, ⟨⟨some 4, .assign (.const (.int .i64 0)), none⟩, []⟩])) (.keep [2, 3, 4])) .ret)
@[go_sem ↓] def uq206 := @unC _ _ kc155.eq_1
def kc156 : C := (.seq (.seq (.seq (.reg (⟨some 60, .load 34 (.tmp 12), none⟩ :: ⟨some 61, .call { callee := .value (.func 23), args := #[(.tmp 60)], argTypes := #[34] }, none⟩ :: r_journal_Recover_12)) (.keep [2, 10, 12, 62])) kc154) kc155)
@[go_sem ↓] def uq207 := @unC _ _ kc156.eq_1
def kc157 : C := (.seq (.seq (.reg ([⟨some 56, .load 29 (.tmp 5), none⟩, ⟨some 57, .load 31 (.tmp 10), none⟩, ⟨some 58, .load 32 (.tmp 8), none⟩, ⟨some 59, .build 34 #[(0, (.tmp 56)), (1, (.tmp 57)), (2, (.tmp 58))], none⟩, ⟨some 12, .alloc 34, none⟩, ⟨none, .store 34 (.tmp 12) (.tmp 59), none⟩])) (.keep [2, 10, 12])) kc156)
@[go_sem ↓] def uq208 := @unC _ _ kc157.eq_1
def kc158 : C := (.seq (.seq (.seq (.reg (⟨some 47, .load 32 (.tmp 8), none⟩ :: ⟨some 48, .load 31 (.tmp 10), none⟩ :: ⟨some 49, .move (.tmp 7), none⟩ :: ⟨some 50, .call { callee := .value (.func 57), args := #[(.tmp 47), (.tmp 48), (.tmp 49)], argTypes := #[32, 31, 3] }, none⟩ :: r_journal_Recover_8)) (.keep [2, 5, 8, 9, 10])) kc152) kc157)
@[go_sem ↓] def uq209 := @unC _ _ kc158.eq_1
def kc159 : C := (.seq (.seq (.reg (⟨some 39, .fieldAddr 34 (.tmp 1) 1, none⟩ :: ⟨some 40, .fieldAddr 31 (.tmp 39) 0, none⟩ :: ⟨some 41, .load 26 (.tmp 40), none⟩ :: ⟨some 42, .move (.tmp 7), none⟩ :: ⟨some 43, .call { callee := .value (.func 27), args := #[(.tmp 41), (.tmp 42)], argTypes := #[26, 3] }, none⟩ :: r_journal_Recover_7)) (.keep [2, 5, 7, 8, 10])) kc158)
@[go_sem ↓] def uq210 := @unC _ _ kc159.eq_1
def kc160 : C := (.seq (.seq (.seq (.reg ([⟨some 35, .move (.tmp 9), none⟩, ⟨some 36, .unOp .not 4 (.tmp 35), none⟩])) (.keep [1, 2, 5, 7, 8, 36])) kc149) kc159)
@[go_sem ↓] def uq211 := @unC _ _ kc160.eq_1
def kc161 : C := (.seq (.seq (.reg (⟨some 30, .load 29 (.tmp 5), none⟩ :: ⟨some 31, .call { callee := .value (.func 56), args := #[(.tmp 30)], argTypes := #[29] }, none⟩ :: r_journal_Recover_4)) (.keep [1, 2, 5, 7, 8, 9])) kc160)
@[go_sem ↓] def uq212 := @unC _ _ kc161.eq_1
def kc162 : C := (.seq (.seq (.seq (.reg (⟨some 19, .move (.tmp 6), none⟩ :: ⟨some 20, .binOp .neq 35 (.tmp 19) (.const (.int .i64 0)) 35, none⟩ :: ⟨some 21, .move (.tmp 20), none⟩ :: ⟨some 22, .fieldAddr 34 (.tmp 1) 1, some (21, false)⟩ :: ⟨some 23, .fieldAddr 31 (.tmp 22) 0, some (21, false)⟩ :: ⟨some 24, .load 26 (.tmp 23), some (21, false)⟩ :: ⟨some 25, .call { callee := .value (.func 39), args := #[(.tmp 24)], argTypes := #[26] }, some (21, false)⟩ :: r_journal_Recover_1)) (.keep [1, 2, 5, 27])) kc147) kc161)
@[go_sem ↓] def uq213 := @unC _ _ kc162.eq_1
def kc163 : C := (.seq (.seq (.reg (⟨some 14, .fieldAddr 34 (.tmp 1) 0, none⟩ :: ⟨some 15, .load 29 (.tmp 14), none⟩ :: ⟨some 16, .call { callee := .value (.func 55), args := #[(.tmp 15)], argTypes := #[29] }, none⟩ :: r_journal_Recover_0)) (.keep [1, 2, 5, 6])) kc162)
@[go_sem ↓] def uq214 := @unC _ _ kc163.eq_1
def c_journal_Recover : C := (.seq (.seq (.reg ([⟨some 1, .box 34 (.tmp 0), none⟩, ⟨some 2, .alloc 34, none⟩, ⟨some 3, .assign (.const (.int .i64 0)), none⟩, ⟨some 4, .assign (.const (.int .i64 0)), none⟩])) (.keep [1, 2])) kc163)
attribute [go_sem ↓] c_journal_Recover
def h_journal_Recover : List Hint := [⟨[], [1, 2], []⟩, ⟨[], [1, 2, 5, 6], []⟩, ⟨[], [1, 2, 5, 27], []⟩, ⟨[], [2, 3, 4], []⟩, ⟨[], [1, 2, 5, 7, 8, 9], []⟩, ⟨[], [1, 2, 5, 7, 8, 36], []⟩, ⟨[], [2, 3, 4], []⟩, ⟨[], [2, 5, 7, 8, 10], []⟩, ⟨[], [2, 5, 8, 9, 10], []⟩, ⟨[], [2, 5, 8, 10, 54], []⟩, ⟨[], [2, 3, 4], []⟩, ⟨[], [2, 10, 12], []⟩, ⟨[], [2, 10, 12, 62], []⟩, ⟨[], [2, 3, 4], []⟩, ⟨[], [2, 3, 4], []⟩]
theorem b_journal_Recover : Body Try.prog 22 [] h_journal_Recover c_journal_Recover 67 [.cell 2 34, .tmp 3, .tmp 4] := body_of Try.func22 (by kernel_rfl) (by kernel_rfl) (by kernel_rfl) (by kernel_rfl)
def kc164 : C := (.seq (.seq (.reg ([⟨some 5, .alloc 29, none⟩, ⟨some 6, .assign (.const (.int .i64 0)), none⟩])) (.keep [0, 1, 2, 3, 5])) (.seq (.seq (.seq (.reg ([⟨some 12, .move (.tmp 0), none⟩, ⟨some 13, .binOp .gtr 3 (.tmp 12) (.const (.int .i64 0)) 3, none⟩])) (.keep [0, 1, 2, 3, 5, 13])) (.cond (.tmp 13) (.seq (.seq (.seq (.draw ([⟨⟨some 15, .load 29 (.tmp 1), none⟩, []⟩, ⟨⟨some 16, .load 34 (.tmp 2), none⟩, [0]⟩, ⟨⟨some 17, .call { callee := .value (.func 31), args := #[(.tmp 16)], argTypes := #[34] }, none⟩, [0]⟩, ⟨⟨some 18, .call { callee := .value (.func 30), args := #[(.tmp 15), (.tmp 17)], argTypes := #[29, 24] }, none⟩, []⟩, ⟨⟨some 14, .move (.tmp 18), none⟩, []⟩, ⟨⟨some 19, .extract (.tmp 14) 0, none⟩, []⟩, ⟨⟨some 20, .extract (.tmp 14) 1, none⟩, [5]⟩, ⟨⟨some 21, .extract (.tmp 14) 2, none⟩, [5, 6]⟩, ⟨⟨some 7, .alloc 29, none⟩, [0, 1, 2, 3, 4, 5, 6, 7]⟩, ⟨⟨none, .store 29 (.tmp 7) (.tmp 19), none⟩, [6, 7]⟩, ⟨⟨some 8, .assign (.tmp 20), none⟩, [7]⟩, ⟨⟨some 9, .assign (.tmp 21), none⟩, []⟩])) (.keep [0, 1, 2, 3, 5, 9])) (.seq (.seq (.reg ([⟨some 22, .move (.tmp 9), none⟩, ⟨some 23, .binOp .neq 35 (.tmp 22) (.const (.int .i64 0)) 35, none⟩])) (.keep [0, 1, 2, 3, 5, 9, 23])) (.cond (.tmp 23) (.seq (.seq (.reg ([⟨some 24, .build 29 #[], none⟩, ⟨some 25, .move (.tmp 9), none⟩, ⟨none, .store 29 (.tmp 5) (.tmp 24), none⟩, ⟨some 6, .assign (.tmp 25), none⟩])) (.keep [5, 6])) .ret) .skip))) (.seq (.seq (.draw ([⟨⟨some 26, .load 29 (.tmp 1), none⟩, []⟩, ⟨⟨some 27, .load 34 (.tmp 2), none⟩, [0]⟩, ⟨⟨some 28, .call { callee := .value (.func 31), args := #[(.tmp 27)], argTypes := #[34] }, none⟩, [0]⟩, ⟨⟨some 29, .move (.tmp 0), none⟩, [0, 1, 2]⟩, ⟨⟨some 30, .load 3 (.tmp 3), none⟩, [0, 1, 2, 3]⟩, ⟨⟨some 31, .call { callee := .value (.func 51), args := #[(.tmp 26), (.tmp 28), (.tmp 29), (.tmp 30)], argTypes := #[29, 24, 3, 3] }, none⟩, []⟩, ⟨⟨some 32, .extract (.tmp 31) 0, none⟩, []⟩, ⟨⟨some 33, .extract (.tmp 31) 1, none⟩, [6]⟩, ⟨⟨none, .store 29 (.tmp 5) (.tmp 32), none⟩, []⟩, ⟨⟨some 6, .assign (.tmp 33), none⟩, []⟩])) (.keep [5, 6])) .ret)) .skip)) (.seq (.seq (.reg ([⟨some 34, .load 29 (.tmp 1), none⟩, ⟨some 10, .alloc 29, none⟩, ⟨none, .store 29 (.tmp 10) (.tmp 34), none⟩])) (.keep [5, 10])) (.seq (.seq (.seq (.reg ([⟨some 35, .move (.const (.int .i64 0)), none⟩])) (.keep [5, 10, 35])) (.block 0 (.loop [] [5, 10, 35] (.seq (.seq (.reg ([⟨some 36, .binOp .lss 3 (.tmp 35) (.const (.int .i64 2)) 3, none⟩])) (.keep [5, 10, 35, 36])) (.seq (.cond (.tmp 36) .skip (.exit 0)) (.seq (.block 1 (.seq (.seq (.reg ([⟨some 37, .move (.tmp 35), none⟩, ⟨some 11, .assign (.tmp 37), none⟩])) (.keep [5, 10, 11, 35])) (.seq (.reg ([⟨some 39, .move (.tmp 11), none⟩, ⟨some 40, .move (.tmp 11), none⟩, ⟨some 41, .fieldAddr 29 (.tmp 10) 0, none⟩, ⟨some 42, .indexAddr 27 (.tmp 41) (.tmp 40), none⟩, ⟨some 43, .load 26 (.tmp 42), none⟩, ⟨some 44, .call { callee := .value (.func 52), args := #[(.tmp 43), (.const (.int .i64 0))], argTypes := #[26, 3] }, none⟩, ⟨some 38, .move (.tmp 44), none⟩, ⟨some 45, .extract (.tmp 38) 0, none⟩, ⟨some 46, .extract (.tmp 38) 1, none⟩, ⟨some 47, .fieldAddr 29 (.tmp 10) 0, none⟩, ⟨some 48, .indexAddr 27 (.tmp 47) (.tmp 39), none⟩, ⟨none, .store 26 (.tmp 48) (.tmp 45), none⟩])) (.keep [5, 10, 35])))) (.seq (.reg ([⟨some 49, .binOp .add 3 (.tmp 35) (.const (.int .i64 1)) 3, none⟩, ⟨some 35, .move (.tmp 49), none⟩])) (.keep [5, 10, 35])))))))) (.seq (.seq (.reg ([⟨some 50, .load 29 (.tmp 10), none⟩, ⟨none, .store 29 (.tmp 5) (.tmp 50), none⟩, ⟨some 6, .assign (.const (.int .i64 0)), none⟩])) (.keep [5, 6])) .ret)))))
attribute [go_sem ↓] kc164
def h_journal_Crash_1 : List Hint := [⟨[], [0, 1, 2, 3, 5], []⟩, ⟨[], [0, 1, 2, 3, 5, 13], []⟩, ⟨[], [0, 1, 2, 3, 5, 9], []⟩, ⟨[], [0, 1, 2, 3, 5, 9, 23], []⟩, ⟨[], [5, 6], []⟩, ⟨[], [5, 6], []⟩, ⟨[], [5, 10], []⟩, ⟨[], [5, 10, 35], []⟩, ⟨[], [5, 10, 35], []⟩, ⟨[], [5, 10, 35, 36], []⟩, ⟨[], [5, 10, 11, 35], []⟩, ⟨[], [5, 10, 35], []⟩, ⟨[], [5, 10, 35], []⟩, ⟨[], [5, 6], []⟩]
theorem b_journal_Crash_1 : Body Try.prog 50 [] h_journal_Crash_1 kc164 51 [.cell 5 29, .tmp 6] := body_of Try.func50 (by kernel_rfl) (by kernel_rfl) (by kernel_rfl) (by kernel_rfl)
theorem openW_good {d : Dev} {n : Int} (hc : d.check = 0) (h0 : 0 ≤ n) (h1 : n ≤ 1000000000) : openW d n = ((openW d n).1, 0) ∧ (openW d n).1.ok := by
  obtain ⟨k0, k1, k2⟩ := d.ok_of hc
  have hall : d.all.length = d.syn.length + d.tail.length := by simp [Dev.all]
  have hok := scanL_ok d.all
  have hf := scanL_follows d.all
  have hnone : (logOf d.cap n []).ok := (log_ok (cap := d.cap) (n := n) (rs := []) ⟨by rfl, fun h => by simp at h⟩ (by omega) (by omega) (by show (0 : Int) ≤ d.cap; omega) h0 (by omega)).1
  have enone : (⟨cutD d 0, n, n⟩ : WLog) = logOf d.cap n [] := by simp [logOf, cutD, catR]
  cases hs : scanL d.all with
  | nil => rw [openW_none hc h0 h1 hs, enone]; exact ⟨rfl, hnone⟩
  | cons r rs =>
    by_cases hl : n - 1 ≤ ((r :: rs).getLast (List.cons_ne_nil r rs)).num
    · rw [hs] at hok hf
      have hr : Row r.num (r :: rs) := ⟨hf, fun _ => rfl⟩
      have hlast : ((r :: rs).getLast (List.cons_ne_nil r rs)).num = r.num + rs.length := by
        rw [List.getLast_eq_getElem, follows_num hr.follows _ (by simp), hr.first (by simp)]
        simp
      have hu := scan_used d.all
      rw [hs] at hu
      have hlen : (catR (r :: rs)).length ≤ d.all.length := by
        obtain ⟨q, hq⟩ := hok.bytes
        rw [hq, List.length_append]
        omega
      have hrk := r.ok_iff.1 (hok.ok r (by simp))
      have e : openW d n = (logOf d.cap r.num (r :: rs), 0) := by
        rw [openW_some hc h0 h1 hs hl, hlast]
        simp only [logOf, cutD, hu, List.length_cons]
        rw [show r.num + (rs.length : Int) + 1 = r.num + ((rs.length + 1 : Nat) : Int) by omega]
      rw [e]
      exact ⟨rfl, (log_ok hr (by omega) (by omega) (by omega) hrk.1 (by omega)).1⟩
    · rw [openW_short hc h0 h1 hs hl, enone]; exact ⟨rfl, hnone⟩
theorem openS_bad {s : Slt} (h : ¬ (s.d0.check = 0 ∧ s.d1.check = 0)) : openS s = (zeroS, 8) := if_neg h
theorem openS_good {s : Slt} (h : s.d0.check = 0 ∧ s.d1.check = 0) : openS s = ((openS s).1, 0) := by unfold openS; rw [if_pos h]
theorem s_journal_Recover (j : Jr) (hs : j.s.fine) (hd : j.l.dev.small) (h8 : j.c.length = 8) : Spec Try.prog 22 [.agg j.cells] [] (resV ((opJ3 (recoverJ j)).map AV.ofT)) := by
  refine spec_k (hold mixed) b_journal_Recover (opJ3 (recoverJ j)) ?_
  have hO := s_slots_Open j.s hs
  have hC := s_disk_Check j.l.dev hd
  simp -implicitDefEqProofs only [go_sem, seval, sk, Jr.cells, clF_map]
  by_cases c1 : j.s.d0.check = 0 ∧ j.s.d1.check = 0
  · rw [openS_good c1] at hO
    have hsf := openS_fine hs
    have hsk := openS_ok c1.1 c1.2
    have ho := openS_good c1
    by_cases c2 : j.l.dev.check = 0
    · rw [c2] at hC
      have hB := s_journal_base (openS j.s).1 hsf hsk
      have hb8 := baseV_len (openS j.s).1
      have hbi := fun h => baseV_in (s := (openS j.s).1) h
      have hrec : recoverJ j = if (baseV (openS j.s).1).2.2 = true then (if (outJ j).ok then (outJ j, (outJ j).l.next, 0) else (zeroJ, 0, 8)) else (zeroJ, 0, 8) := by
        rw [recoverJ, if_pos ⟨by rw [ho], c2⟩]
      have hout : outJ j = ⟨(openS j.s).1, (openW j.l.dev (baseV (openS j.s).1).1).1, (replayV (baseV (openS j.s).1).2.1 (openW j.l.dev (baseV (openS j.s).1).1).1 (baseV (openS j.s).1).1).1⟩ := rfl
      generalize (openS j.s).1 = s2 at *
      obtain ⟨⟨bn, bc, bk⟩, hbe⟩ : ∃ p, baseV s2 = p := ⟨_, rfl⟩
      rw [hbe] at hB hb8 hbi hrec hout
      simp only at hb8 hbi hrec hout
      first | refine call_k hO ?_ | refine call_d hO ?_
      simp -implicitDefEqProofs only [go_sem, seval, sk]
      first | refine call_k hC ?_ (by simp -implicitDefEqProofs only [go_sem, seval, sk, Dev.cells]) | refine call_d hC ?_ (by simp -implicitDefEqProofs only [go_sem, seval, sk, Dev.cells])
      simp -implicitDefEqProofs only [go_sem, seval, sk]
      first | refine call_k hB ?_ | refine call_d hB ?_
      cases bk with
      | false =>
        rw [hrec, if_neg (by decide)]
        simp -implicitDefEqProofs only [go_sem, seval, sk, clF_map, hb8]
        refine ⟨clF_one _ _, ?_⟩
        simp -implicitDefEqProofs only [go_sem, seval, sk, opJ3, zeroJ_cells]
      | true =>
        obtain ⟨i0, i1, i2⟩ := hbi rfl
        obtain ⟨w1, w2⟩ := openW_good c2 i0 i1
        have hW := s_wal_Open j.l.dev hd bn (by omega) (by omega)
        rw [w1] at hW
        rw [if_pos rfl] at hrec
        generalize (openW j.l.dev bn).1 = l2 at *
        have hR := s_journal_replay bc hb8 l2 (log_fine w2) w2 bn (by omega) (by omega)
        have hr8 := replayV_len hb8 l2 bn
        simp -implicitDefEqProofs only [go_sem, seval, sk, clF_map, hb8]
        refine ⟨clF_one _ _, ?_⟩
        first | refine call_k hW ?_ (by simp -implicitDefEqProofs only [go_sem, seval, sk, Dev.cells]) | refine call_d hW ?_ (by simp -implicitDefEqProofs only [go_sem, seval, sk, Dev.cells])
        have ht := clF_take (l := true) hb8
        have hu := clF_drop (l := true) hb8
        simp -implicitDefEqProofs only [go_sem, seval, sk, opW, hb8, ht]
        first | refine call_k hR ?_ (by simp -implicitDefEqProofs only [go_sem, seval, sk, ht]) | refine call_d hR ?_ (by simp -implicitDefEqProofs only [go_sem, seval, sk, ht])
        obtain ⟨⟨rc, rk⟩, hrp⟩ : ∃ p, replayV bc l2 bn = p := ⟨_, rfl⟩
        rw [hrp] at hout hr8
        simp only at hout hr8
        rw [hrp]
        have hwf := log_fine w2
        cases rk with
        | false =>
          have hnk : ¬ (outJ j).ok := by
            rw [hout]
            intro h
            have h5 := h.2.2.2.2
            rw [show (Jr.mk s2 l2 rc).s = s2 from rfl, hbe] at h5
            have h6 := h5.2.2
            simp only at h6 h5
            have h7 : replayV bc l2 bn = (rc, true) := by
              rw [replayV, if_pos ⟨h5.1, h5.2.1⟩]
              exact h6
            rw [hrp] at h7
            simp at h7
          rw [hrec, if_neg hnk]
          simp -implicitDefEqProofs only [go_sem, seval, sk, clF_map, hr8, hb8, hu, List.append_nil]
          refine ⟨clF_one _ _, ?_⟩
          simp -implicitDefEqProofs only [go_sem, seval, sk, opJ3, zeroJ_cells]
        | true =>
          have hst : stOK rc = true := by
            have := redo_st (l2.recs.drop (bn - l2.first).toNat) bc i2
            unfold replayV at hrp
            split at hrp
            · rw [hrp] at this; exact this
            · cases hrp
          have hC3 := s_journal_Check ⟨s2, l2, rc⟩ ⟨hsf, hwf, hr8, st_range hst⟩
          rw [hout] at hrec
          have ht2 := clF_take (l := true) hr8
          simp -implicitDefEqProofs only [go_sem, seval, sk, clF_map, hr8, hb8, hu, List.append_nil]
          refine ⟨clF_one _ _, ?_⟩
          simp -implicitDefEqProofs only [go_sem, seval, sk, hr8, ht2]
          refine ⟨clF_one _ _, ?_⟩
          first | refine call_k hC3 ?_ (by simp -implicitDefEqProofs only [go_sem, seval, sk, Jr.cells]) | refine call_d hC3 ?_ (by simp -implicitDefEqProofs only [go_sem, seval, sk, Jr.cells])
          by_cases hk : (Jr.mk s2 l2 rc).ok
          · rw [if_pos hk] at hrec
            rw [hrec, chkJ_ok hk]
            simp -implicitDefEqProofs only [go_sem, seval, sk, opJ3, Jr.cells, clF_map, hr8, ht2]
            exact clF_one _ _
          · rw [if_neg hk] at hrec
            rw [hrec, chkJ_bad hk]
            simp -implicitDefEqProofs only [go_sem, seval, sk, opJ3, zeroJ_cells]
    · have hrec : recoverJ j = (zeroJ, 0, 8) := by rw [recoverJ, if_neg (fun h => c2 h.2)]
      rw [hrec]
      have e2 : (j.l.dev.check != 0) = true := by simp [c2]
      generalize (openS j.s).1 = s2 at *
      first | refine call_k hO ?_ | refine call_d hO ?_
      simp -implicitDefEqProofs only [go_sem, seval, sk]
      first | refine call_k hC ?_ (by simp -implicitDefEqProofs only [go_sem, seval, sk, Dev.cells]) | refine call_d hC ?_ (by simp -implicitDefEqProofs only [go_sem, seval, sk, Dev.cells])
      simp -implicitDefEqProofs only [go_sem, seval, sk, e2, opJ3, zeroJ_cells]
  · rw [openS_bad c1] at hO
    have hrec : recoverJ j = (zeroJ, 0, 8) := by rw [recoverJ, openS_bad c1, if_neg (fun h => by have := h.1; cases this)]
    rw [hrec]
    first | refine call_k hO ?_ | refine call_d hO ?_
    simp -implicitDefEqProofs only [go_sem, seval, sk, zeroS_cells, opJ3, zeroJ_cells]
def halved (j : Jr) (steps o : Int) : Slt × Int := if 0 < steps then (if (saveS j.s (ptB j)).2.2 = 0 then halfS j.s (ptB j) steps o else (zeroS, (saveS j.s (ptB j)).2.2)) else (⟨(j.s.d0.crash 0).1, (j.s.d1.crash 0).1, j.s.next⟩, 0)
theorem halved_save {j : Jr} {steps o : Int} (h : 0 < steps) (h1 : ¬ (saveS j.s (ptB j)).2.2 = 0) : halved j steps o = (zeroS, (saveS j.s (ptB j)).2.2) := by rw [halved, if_pos h, if_neg h1]
theorem halved_half {j : Jr} {steps o : Int} (h : 0 < steps) (h1 : (saveS j.s (ptB j)).2.2 = 0) : halved j steps o = halfS j.s (ptB j) steps o := by rw [halved, if_pos h, if_pos h1]
theorem halved_none {j : Jr} {steps o : Int} (h : ¬ 0 < steps) : halved j steps o = (⟨(j.s.d0.crash 0).1, (j.s.d1.crash 0).1, j.s.next⟩, 0) := by rw [halved, if_neg h]
theorem s_journal_Crash_1 (j : Jr) (hj : j.fine) (steps o : Int) (s0 : -9223372036854775808 ≤ steps) (s1 : steps < 9223372036854775808) (o0 : -9223372036854775808 ≤ o) (o1 : o < 9223372036854775808) : Spec Try.prog 50 [.i .i64 steps, .pt j.s.cells, .pt j.cells, .pt [.i .i64 o]] [] (resV ((opS (halved j steps o)).map AV.ofT)) := by
  refine spec_k (hold mixed) b_journal_Crash_1 (opS (halved j steps o)) ?_
  obtain ⟨hs, hl, h8, hc⟩ := hj
  have hP := s_journal_point j h8
  have hP9 := ptB_len h8
  have hPT : List.take 72 (bT (ptB j)) = bT (ptB j) := List.take_of_length_le (by rw [bT_length]; omega)
  have hS := s_slots_Save j.s hs (ptB j) (by omega)
  have hH := s_slots_Half j.s hs (ptB j) (by omega) steps o s0 s1 o0 o1
  simp -implicitDefEqProofs only [go_sem, seval, sk, Jr.cells]
  by_cases c1 : 0 < steps
  · have htT := clT_take h8
    simp -implicitDefEqProofs only [go_sem, seval, sk, eq_true c1]
    refine ⟨by omega, ?_⟩
    first | refine call_k hP ?_ (by simp -implicitDefEqProofs only [go_sem, seval, sk, Jr.cells, htT]) | refine call_d hP ?_ (by simp -implicitDefEqProofs only [go_sem, seval, sk, Jr.cells, htT])
    simp -implicitDefEqProofs only [go_sem, seval, sk]
    by_cases h1 : (saveS j.s (ptB j)).2.2 = 0
    · rw [halved_half c1 h1]
      generalize halfS j.s (ptB j) steps o = hp at *
      obtain ⟨hs2, he2⟩ := hp
      obtain ⟨⟨s2, n2, e2⟩, hse⟩ : ∃ p, saveS j.s (ptB j) = p := ⟨_, rfl⟩
      rw [hse] at hS h1
      simp only at h1
      subst h1
      first | refine call_k hS ?_ (by simp -implicitDefEqProofs only [go_sem, seval, sk, hP9, hPT]) | refine call_d hS ?_ (by simp -implicitDefEqProofs only [go_sem, seval, sk, hP9, hPT])
      simp -implicitDefEqProofs only [go_sem, seval, sk]
      refine ⟨by omega, ?_⟩
      first | refine call_k hP ?_ (by simp -implicitDefEqProofs only [go_sem, seval, sk, Jr.cells, htT]) | refine call_d hP ?_ (by simp -implicitDefEqProofs only [go_sem, seval, sk, Jr.cells, htT])
      simp -implicitDefEqProofs only [go_sem, seval, sk]
      first | refine call_k hH ?_ (by simp -implicitDefEqProofs only [go_sem, seval, sk, hP9, hPT]) | refine call_d hH ?_ (by simp -implicitDefEqProofs only [go_sem, seval, sk, hP9, hPT])
      simp -implicitDefEqProofs only [go_sem, seval, sk]
    · rw [halved_save c1 h1]
      obtain ⟨⟨s2, n2, e2⟩, hse⟩ : ∃ p, saveS j.s (ptB j) = p := ⟨_, rfl⟩
      rw [hse] at hS h1 ⊢
      simp only at h1
      have e3 : (e2 != 0) = true := by simp [h1]
      first | refine call_k hS ?_ (by simp -implicitDefEqProofs only [go_sem, seval, sk, hP9, hPT]) | refine call_d hS ?_ (by simp -implicitDefEqProofs only [go_sem, seval, sk, hP9, hPT])
      simp -implicitDefEqProofs only [go_sem, seval, sk, e3]
      rfl
  · rw [halved_none c1]
    simp -implicitDefEqProofs only [go_sem, seval, sk, eq_false c1]
    have hC0 := s_disk_Crash j.s.d0 0 hs.1 (by decide) (by decide)
    have hC1 := s_disk_Crash j.s.d1 0 hs.2.1 (by decide) (by decide)
    generalize j.s.d0.crash 0 = q0 at *
    generalize j.s.d1.crash 0 = q1 at *
    obtain ⟨d0, e0⟩ := q0
    obtain ⟨d1, e1⟩ := q1
    refine loop_u 3 (ln_step (by simp -implicitDefEqProofs only [go_sem, seval]; rfl) fun R0 hR0 => ?_)
    simp -implicitDefEqProofs only [go_sem, seval, sk]
    first | refine call_k hC0 ?_ (by simp -implicitDefEqProofs only [go_sem, seval, sk, Dev.cells]) (by simp -implicitDefEqProofs only [go_sem, seval, sk, opR]) | refine call_d hC0 ?_ (by simp -implicitDefEqProofs only [go_sem, seval, sk, Dev.cells]) (by simp -implicitDefEqProofs only [go_sem, seval, sk, opR])
    simp -implicitDefEqProofs only [go_sem, seval, sk, opR, Dev.cells]
    refine hR0 _ (ln_step (by simp -implicitDefEqProofs only [go_sem, seval]; rfl) fun R1 hR1 => ?_)
    simp -implicitDefEqProofs only [go_sem, seval, sk]
    first | refine call_k hC1 ?_ (by simp -implicitDefEqProofs only [go_sem, seval, sk, Dev.cells]) (by simp -implicitDefEqProofs only [go_sem, seval, sk, opR]) | refine call_d hC1 ?_ (by simp -implicitDefEqProofs only [go_sem, seval, sk, Dev.cells]) (by simp -implicitDefEqProofs only [go_sem, seval, sk, opR])
    simp -implicitDefEqProofs only [go_sem, seval, sk, opR, Dev.cells]
    refine hR1 _ (ln_step (by simp -implicitDefEqProofs only [go_sem, seval]; rfl) fun R2 hR2 => ?_)
    simp -implicitDefEqProofs only [go_sem, seval, sk]
theorem wr_m1 : IntKind.i64.wrap (-1) = -1 := by decide
def crLog (j : Jr) (stage : Int) : WLog := if stage = 0 then j.l else if stage = 5 then j.l.none else j.l.all
def crashJ (j : Jr) (stage keep : Int) : Jr × Int :=
  if j.ok then (if 0 ≤ stage ∧ stage ≤ 5 then
    (if (halved j (max 0 (min (stage - 1) 3)) (if stage = 3 then keep else 0)).2 = 0 then
      (if ((crLog j stage).dev.crash (if stage = 3 then 0 else keep)).2 = 0 then (⟨(halved j (max 0 (min (stage - 1) 3)) (if stage = 3 then keep else 0)).1, ⟨((crLog j stage).dev.crash (if stage = 3 then 0 else keep)).1, (crLog j stage).first, (crLog j stage).next⟩, z8⟩, 0)
      else (zeroJ, ((crLog j stage).dev.crash (if stage = 3 then 0 else keep)).2))
    else (zeroJ, (halved j (max 0 (min (stage - 1) 3)) (if stage = 3 then keep else 0)).2)) else (zeroJ, 2)) else (zeroJ, 8)
theorem crashJ_0 (j : Jr) (keep : Int) (h : j.ok) : crashJ j 0 keep = (if (halved j 0 0).2 = 0 then (if ((j.l).dev.crash keep).2 = 0 then (⟨(halved j 0 0).1, ⟨((j.l).dev.crash keep).1, (j.l).first, (j.l).next⟩, z8⟩, 0) else (zeroJ, ((j.l).dev.crash keep).2)) else (zeroJ, (halved j 0 0).2)) := by
  rw [crashJ, if_pos h, if_pos (by decide)]
  rfl
theorem s_journal_Crash_s0 (j : Jr) (hj : j.fine) (h : j.ok) (keep : Int) (k0 : -9223372036854775808 ≤ keep) (k1 : keep < 9223372036854775808) : Spec Try.prog 18 [.agg j.cells, .i .i64 0, .i .i64 keep] [] (resV ((opJ (crashJ j 0 keep)).map AV.ofT)) := by
  refine spec_k (hold mixed) b_journal_Crash (opJ (crashJ j 0 keep)) ?_
  have hC := s_journal_Check j hj
  have hH := s_journal_Crash_1 j hj 0 0 (by decide) (by decide) (by decide) (by decide)
  obtain ⟨hs, hl, h8, hc⟩ := hj
  have htk := clF_take (l := false) h8
  have htk2 := clT_take h8
  rw [chkJ_ok h] at hC
  have hX := s_disk_Crash (j.l).dev keep hl.1 k0 k1
  simp -implicitDefEqProofs only [go_sem, seval, sk, Jr.cells, clF_map]
  refine ⟨by omega, ?_⟩
  first | refine call_k hC ?_ (by simp -implicitDefEqProofs only [go_sem, seval, sk, Jr.cells, htk]) | refine call_d hC ?_ (by simp -implicitDefEqProofs only [go_sem, seval, sk, Jr.cells, htk])
  rw [crashJ_0 j keep h]
  generalize halved j 0 0 = hv at *
  obtain ⟨s2, e2⟩ := hv
  generalize (j.l).dev.crash keep = cr at *
  obtain ⟨d2, e3⟩ := cr
  simp -implicitDefEqProofs only [go_sem, seval, sk, wr_m1]
  first | refine call_k hH ?_ (by simp -implicitDefEqProofs only [go_sem, seval, sk, Jr.cells, htk, plains_clF false h8]) | refine call_d hH ?_ (by simp -implicitDefEqProofs only [go_sem, seval, sk, Jr.cells, htk, plains_clF false h8])
  by_cases he2 : e2 = 0
  · subst he2
    simp -implicitDefEqProofs only [go_sem, seval, sk]
    first | refine call_k hX ?_ (by simp -implicitDefEqProofs only [go_sem, seval, sk, Dev.cells]) | refine call_d hX ?_ (by simp -implicitDefEqProofs only [go_sem, seval, sk, Dev.cells])
    by_cases he3 : e3 = 0
    · subst he3
      simp -implicitDefEqProofs only [go_sem, seval, sk, opR, Dev.cells, opJ, Jr.cells, z8_T]
    · have n3 : (e3 != 0) = true := by simp [he3]
      simp -implicitDefEqProofs only [go_sem, seval, sk, opR, Dev.cells, n3, if_neg he3, opJ, zeroJ_cells]
  · have n2 : (e2 != 0) = true := by simp [he2]
    simp -implicitDefEqProofs only [go_sem, seval, sk, n2, if_neg he2, opJ, zeroJ_cells]
theorem crashJ_1 (j : Jr) (keep : Int) (h : j.ok) : crashJ j 1 keep = (if (halved j 0 0).2 = 0 then (if ((j.l.all).dev.crash keep).2 = 0 then (⟨(halved j 0 0).1, ⟨((j.l.all).dev.crash keep).1, (j.l.all).first, (j.l.all).next⟩, z8⟩, 0) else (zeroJ, ((j.l.all).dev.crash keep).2)) else (zeroJ, (halved j 0 0).2)) := by
  rw [crashJ, if_pos h, if_pos (by decide)]
  rfl
theorem s_journal_Crash_s1 (j : Jr) (hj : j.fine) (h : j.ok) (keep : Int) (k0 : -9223372036854775808 ≤ keep) (k1 : keep < 9223372036854775808) : Spec Try.prog 18 [.agg j.cells, .i .i64 1, .i .i64 keep] [] (resV ((opJ (crashJ j 1 keep)).map AV.ofT)) := by
  refine spec_k (hold mixed) b_journal_Crash (opJ (crashJ j 1 keep)) ?_
  have hC := s_journal_Check j hj
  have hH := s_journal_Crash_1 j hj 0 0 (by decide) (by decide) (by decide) (by decide)
  obtain ⟨hs, hl, h8, hc⟩ := hj
  have htk := clF_take (l := false) h8
  have htk2 := clT_take h8
  rw [chkJ_ok h] at hC
  have hW := s_wal_Sync j.l hl
  rw [sync_all h.2.1] at hW
  have hX := s_disk_Crash (j.l.all).dev keep (log_fine (all_ok h.2.1).1).1 k0 k1
  simp -implicitDefEqProofs only [go_sem, seval, sk, Jr.cells, clF_map]
  refine ⟨by omega, ?_⟩
  first | refine call_k hC ?_ (by simp -implicitDefEqProofs only [go_sem, seval, sk, Jr.cells, htk]) | refine call_d hC ?_ (by simp -implicitDefEqProofs only [go_sem, seval, sk, Jr.cells, htk])
  rw [crashJ_1 j keep h]
  generalize halved j 0 0 = hv at *
  obtain ⟨s2, e2⟩ := hv
  generalize (j.l.all).dev.crash keep = cr at *
  obtain ⟨d2, e3⟩ := cr
  simp -implicitDefEqProofs only [go_sem, seval, sk, wr_m1]
  first | refine call_k hW ?_ (by simp -implicitDefEqProofs only [go_sem, seval, sk]) | refine call_d hW ?_ (by simp -implicitDefEqProofs only [go_sem, seval, sk])
  simp -implicitDefEqProofs only [go_sem, seval, sk, opW]
  first | refine call_k hH ?_ (by simp -implicitDefEqProofs only [go_sem, seval, sk, Jr.cells, htk, plains_clF false h8]) | refine call_d hH ?_ (by simp -implicitDefEqProofs only [go_sem, seval, sk, Jr.cells, htk, plains_clF false h8])
  by_cases he2 : e2 = 0
  · subst he2
    simp -implicitDefEqProofs only [go_sem, seval, sk]
    first | refine call_k hX ?_ (by simp -implicitDefEqProofs only [go_sem, seval, sk, Dev.cells]) | refine call_d hX ?_ (by simp -implicitDefEqProofs only [go_sem, seval, sk, Dev.cells])
    by_cases he3 : e3 = 0
    · subst he3
      simp -implicitDefEqProofs only [go_sem, seval, sk, opR, Dev.cells, opJ, Jr.cells, z8_T]
    · have n3 : (e3 != 0) = true := by simp [he3]
      simp -implicitDefEqProofs only [go_sem, seval, sk, opR, Dev.cells, n3, if_neg he3, opJ, zeroJ_cells]
  · have n2 : (e2 != 0) = true := by simp [he2]
    simp -implicitDefEqProofs only [go_sem, seval, sk, n2, if_neg he2, opJ, zeroJ_cells]
theorem crashJ_2 (j : Jr) (keep : Int) (h : j.ok) : crashJ j 2 keep = (if (halved j 1 0).2 = 0 then (if ((j.l.all).dev.crash keep).2 = 0 then (⟨(halved j 1 0).1, ⟨((j.l.all).dev.crash keep).1, (j.l.all).first, (j.l.all).next⟩, z8⟩, 0) else (zeroJ, ((j.l.all).dev.crash keep).2)) else (zeroJ, (halved j 1 0).2)) := by
  rw [crashJ, if_pos h, if_pos (by decide)]
  rfl
theorem s_journal_Crash_s2 (j : Jr) (hj : j.fine) (h : j.ok) (keep : Int) (k0 : -9223372036854775808 ≤ keep) (k1 : keep < 9223372036854775808) : Spec Try.prog 18 [.agg j.cells, .i .i64 2, .i .i64 keep] [] (resV ((opJ (crashJ j 2 keep)).map AV.ofT)) := by
  refine spec_k (hold mixed) b_journal_Crash (opJ (crashJ j 2 keep)) ?_
  have hC := s_journal_Check j hj
  have hH := s_journal_Crash_1 j hj 1 0 (by decide) (by decide) (by decide) (by decide)
  obtain ⟨hs, hl, h8, hc⟩ := hj
  have htk := clF_take (l := false) h8
  have htk2 := clT_take h8
  rw [chkJ_ok h] at hC
  have hW := s_wal_Sync j.l hl
  rw [sync_all h.2.1] at hW
  have hX := s_disk_Crash (j.l.all).dev keep (log_fine (all_ok h.2.1).1).1 k0 k1
  simp -implicitDefEqProofs only [go_sem, seval, sk, Jr.cells, clF_map]
  refine ⟨by omega, ?_⟩
  first | refine call_k hC ?_ (by simp -implicitDefEqProofs only [go_sem, seval, sk, Jr.cells, htk]) | refine call_d hC ?_ (by simp -implicitDefEqProofs only [go_sem, seval, sk, Jr.cells, htk])
  rw [crashJ_2 j keep h]
  generalize halved j 1 0 = hv at *
  obtain ⟨s2, e2⟩ := hv
  generalize (j.l.all).dev.crash keep = cr at *
  obtain ⟨d2, e3⟩ := cr
  simp -implicitDefEqProofs only [go_sem, seval, sk, wr_m1]
  first | refine call_k hW ?_ (by simp -implicitDefEqProofs only [go_sem, seval, sk]) | refine call_d hW ?_ (by simp -implicitDefEqProofs only [go_sem, seval, sk])
  simp -implicitDefEqProofs only [go_sem, seval, sk, opW]
  first | refine call_k hH ?_ (by simp -implicitDefEqProofs only [go_sem, seval, sk, Jr.cells, htk, plains_clF false h8]) | refine call_d hH ?_ (by simp -implicitDefEqProofs only [go_sem, seval, sk, Jr.cells, htk, plains_clF false h8])
  by_cases he2 : e2 = 0
  · subst he2
    simp -implicitDefEqProofs only [go_sem, seval, sk]
    first | refine call_k hX ?_ (by simp -implicitDefEqProofs only [go_sem, seval, sk, Dev.cells]) | refine call_d hX ?_ (by simp -implicitDefEqProofs only [go_sem, seval, sk, Dev.cells])
    by_cases he3 : e3 = 0
    · subst he3
      simp -implicitDefEqProofs only [go_sem, seval, sk, opR, Dev.cells, opJ, Jr.cells, z8_T]
    · have n3 : (e3 != 0) = true := by simp [he3]
      simp -implicitDefEqProofs only [go_sem, seval, sk, opR, Dev.cells, n3, if_neg he3, opJ, zeroJ_cells]
  · have n2 : (e2 != 0) = true := by simp [he2]
    simp -implicitDefEqProofs only [go_sem, seval, sk, n2, if_neg he2, opJ, zeroJ_cells]
theorem crashJ_3 (j : Jr) (keep : Int) (h : j.ok) : crashJ j 3 keep = (if (halved j 2 keep).2 = 0 then (if ((j.l.all).dev.crash 0).2 = 0 then (⟨(halved j 2 keep).1, ⟨((j.l.all).dev.crash 0).1, (j.l.all).first, (j.l.all).next⟩, z8⟩, 0) else (zeroJ, ((j.l.all).dev.crash 0).2)) else (zeroJ, (halved j 2 keep).2)) := by
  rw [crashJ, if_pos h, if_pos (by decide)]
  rfl
theorem s_journal_Crash_s3 (j : Jr) (hj : j.fine) (h : j.ok) (keep : Int) (k0 : -9223372036854775808 ≤ keep) (k1 : keep < 9223372036854775808) : Spec Try.prog 18 [.agg j.cells, .i .i64 3, .i .i64 keep] [] (resV ((opJ (crashJ j 3 keep)).map AV.ofT)) := by
  refine spec_k (hold mixed) b_journal_Crash (opJ (crashJ j 3 keep)) ?_
  have hC := s_journal_Check j hj
  have hH := s_journal_Crash_1 j hj 2 keep (by omega) (by omega) (by omega) (by omega)
  obtain ⟨hs, hl, h8, hc⟩ := hj
  have htk := clF_take (l := false) h8
  have htk2 := clT_take h8
  rw [chkJ_ok h] at hC
  have hW := s_wal_Sync j.l hl
  rw [sync_all h.2.1] at hW
  have hX := s_disk_Crash (j.l.all).dev 0 (log_fine (all_ok h.2.1).1).1 (by decide) (by decide)
  simp -implicitDefEqProofs only [go_sem, seval, sk, Jr.cells, clF_map]
  refine ⟨by omega, ?_⟩
  first | refine call_k hC ?_ (by simp -implicitDefEqProofs only [go_sem, seval, sk, Jr.cells, htk]) | refine call_d hC ?_ (by simp -implicitDefEqProofs only [go_sem, seval, sk, Jr.cells, htk])
  rw [crashJ_3 j keep h]
  generalize halved j 2 keep = hv at *
  obtain ⟨s2, e2⟩ := hv
  generalize (j.l.all).dev.crash 0 = cr at *
  obtain ⟨d2, e3⟩ := cr
  simp -implicitDefEqProofs only [go_sem, seval, sk, wr_m1]
  first | refine call_k hW ?_ (by simp -implicitDefEqProofs only [go_sem, seval, sk]) | refine call_d hW ?_ (by simp -implicitDefEqProofs only [go_sem, seval, sk])
  simp -implicitDefEqProofs only [go_sem, seval, sk, opW]
  first | refine call_k hH ?_ (by simp -implicitDefEqProofs only [go_sem, seval, sk, Jr.cells, htk, plains_clF false h8]) | refine call_d hH ?_ (by simp -implicitDefEqProofs only [go_sem, seval, sk, Jr.cells, htk, plains_clF false h8])
  by_cases he2 : e2 = 0
  · subst he2
    simp -implicitDefEqProofs only [go_sem, seval, sk]
    first | refine call_k hX ?_ (by simp -implicitDefEqProofs only [go_sem, seval, sk, Dev.cells]) | refine call_d hX ?_ (by simp -implicitDefEqProofs only [go_sem, seval, sk, Dev.cells])
    by_cases he3 : e3 = 0
    · subst he3
      simp -implicitDefEqProofs only [go_sem, seval, sk, opR, Dev.cells, opJ, Jr.cells, z8_T]
    · have n3 : (e3 != 0) = true := by simp [he3]
      simp -implicitDefEqProofs only [go_sem, seval, sk, opR, Dev.cells, n3, if_neg he3, opJ, zeroJ_cells]
  · have n2 : (e2 != 0) = true := by simp [he2]
    simp -implicitDefEqProofs only [go_sem, seval, sk, n2, if_neg he2, opJ, zeroJ_cells]
theorem crashJ_4 (j : Jr) (keep : Int) (h : j.ok) : crashJ j 4 keep = (if (halved j 3 0).2 = 0 then (if ((j.l.all).dev.crash keep).2 = 0 then (⟨(halved j 3 0).1, ⟨((j.l.all).dev.crash keep).1, (j.l.all).first, (j.l.all).next⟩, z8⟩, 0) else (zeroJ, ((j.l.all).dev.crash keep).2)) else (zeroJ, (halved j 3 0).2)) := by
  rw [crashJ, if_pos h, if_pos (by decide)]
  rfl
theorem s_journal_Crash_s4 (j : Jr) (hj : j.fine) (h : j.ok) (keep : Int) (k0 : -9223372036854775808 ≤ keep) (k1 : keep < 9223372036854775808) : Spec Try.prog 18 [.agg j.cells, .i .i64 4, .i .i64 keep] [] (resV ((opJ (crashJ j 4 keep)).map AV.ofT)) := by
  refine spec_k (hold mixed) b_journal_Crash (opJ (crashJ j 4 keep)) ?_
  have hC := s_journal_Check j hj
  have hH := s_journal_Crash_1 j hj 3 0 (by decide) (by decide) (by decide) (by decide)
  obtain ⟨hs, hl, h8, hc⟩ := hj
  have htk := clF_take (l := false) h8
  have htk2 := clT_take h8
  rw [chkJ_ok h] at hC
  have hW := s_wal_Sync j.l hl
  rw [sync_all h.2.1] at hW
  have hX := s_disk_Crash (j.l.all).dev keep (log_fine (all_ok h.2.1).1).1 k0 k1
  simp -implicitDefEqProofs only [go_sem, seval, sk, Jr.cells, clF_map]
  refine ⟨by omega, ?_⟩
  first | refine call_k hC ?_ (by simp -implicitDefEqProofs only [go_sem, seval, sk, Jr.cells, htk]) | refine call_d hC ?_ (by simp -implicitDefEqProofs only [go_sem, seval, sk, Jr.cells, htk])
  rw [crashJ_4 j keep h]
  generalize halved j 3 0 = hv at *
  obtain ⟨s2, e2⟩ := hv
  generalize (j.l.all).dev.crash keep = cr at *
  obtain ⟨d2, e3⟩ := cr
  simp -implicitDefEqProofs only [go_sem, seval, sk, wr_m1]
  first | refine call_k hW ?_ (by simp -implicitDefEqProofs only [go_sem, seval, sk]) | refine call_d hW ?_ (by simp -implicitDefEqProofs only [go_sem, seval, sk])
  simp -implicitDefEqProofs only [go_sem, seval, sk, opW]
  first | refine call_k hH ?_ (by simp -implicitDefEqProofs only [go_sem, seval, sk, Jr.cells, htk, plains_clF false h8]) | refine call_d hH ?_ (by simp -implicitDefEqProofs only [go_sem, seval, sk, Jr.cells, htk, plains_clF false h8])
  by_cases he2 : e2 = 0
  · subst he2
    simp -implicitDefEqProofs only [go_sem, seval, sk]
    first | refine call_k hX ?_ (by simp -implicitDefEqProofs only [go_sem, seval, sk, Dev.cells]) | refine call_d hX ?_ (by simp -implicitDefEqProofs only [go_sem, seval, sk, Dev.cells])
    by_cases he3 : e3 = 0
    · subst he3
      simp -implicitDefEqProofs only [go_sem, seval, sk, opR, Dev.cells, opJ, Jr.cells, z8_T]
    · have n3 : (e3 != 0) = true := by simp [he3]
      simp -implicitDefEqProofs only [go_sem, seval, sk, opR, Dev.cells, n3, if_neg he3, opJ, zeroJ_cells]
  · have n2 : (e2 != 0) = true := by simp [he2]
    simp -implicitDefEqProofs only [go_sem, seval, sk, n2, if_neg he2, opJ, zeroJ_cells]
theorem crashJ_5 (j : Jr) (keep : Int) (h : j.ok) : crashJ j 5 keep = (if (halved j 3 0).2 = 0 then (if ((j.l.none).dev.crash keep).2 = 0 then (⟨(halved j 3 0).1, ⟨((j.l.none).dev.crash keep).1, (j.l.none).first, (j.l.none).next⟩, z8⟩, 0) else (zeroJ, ((j.l.none).dev.crash keep).2)) else (zeroJ, (halved j 3 0).2)) := by
  rw [crashJ, if_pos h, if_pos (by decide)]
  rfl
theorem s_journal_Crash_s5 (j : Jr) (hj : j.fine) (h : j.ok) (keep : Int) (k0 : -9223372036854775808 ≤ keep) (k1 : keep < 9223372036854775808) : Spec Try.prog 18 [.agg j.cells, .i .i64 5, .i .i64 keep] [] (resV ((opJ (crashJ j 5 keep)).map AV.ofT)) := by
  refine spec_k (hold mixed) b_journal_Crash (opJ (crashJ j 5 keep)) ?_
  have hC := s_journal_Check j hj
  have hH := s_journal_Crash_1 j hj 3 0 (by decide) (by decide) (by decide) (by decide)
  obtain ⟨hs, hl, h8, hc⟩ := hj
  have htk := clF_take (l := false) h8
  have htk2 := clT_take h8
  rw [chkJ_ok h] at hC
  have hW := s_wal_Sync j.l hl
  rw [sync_all h.2.1] at hW
  have hD := s_wal_Drop j.l.all (log_fine (all_ok h.2.1).1) j.l.next (by have := hl.2.2.2.1; omega) (by have := hl.2.2.2.2; omega)
  rw [drop_none h.2.1] at hD
  have hX := s_disk_Crash (j.l.none).dev keep (log_fine (none_ok h.2.1).1).1 k0 k1
  simp -implicitDefEqProofs only [go_sem, seval, sk, Jr.cells, clF_map]
  refine ⟨by omega, ?_⟩
  first | refine call_k hC ?_ (by simp -implicitDefEqProofs only [go_sem, seval, sk, Jr.cells, htk]) | refine call_d hC ?_ (by simp -implicitDefEqProofs only [go_sem, seval, sk, Jr.cells, htk])
  rw [crashJ_5 j keep h]
  generalize halved j 3 0 = hv at *
  obtain ⟨s2, e2⟩ := hv
  generalize (j.l.none).dev.crash keep = cr at *
  obtain ⟨d2, e3⟩ := cr
  simp -implicitDefEqProofs only [go_sem, seval, sk, wr_m1]
  first | refine call_k hW ?_ (by simp -implicitDefEqProofs only [go_sem, seval, sk]) | refine call_d hW ?_ (by simp -implicitDefEqProofs only [go_sem, seval, sk])
  simp -implicitDefEqProofs only [go_sem, seval, sk, opW]
  first | refine call_k hH ?_ (by simp -implicitDefEqProofs only [go_sem, seval, sk, Jr.cells, htk, plains_clF false h8]) | refine call_d hH ?_ (by simp -implicitDefEqProofs only [go_sem, seval, sk, Jr.cells, htk, plains_clF false h8])
  by_cases he2 : e2 = 0
  · subst he2
    simp -implicitDefEqProofs only [go_sem, seval, sk]
    first | refine call_k hD ?_ (by simp -implicitDefEqProofs only [go_sem, seval, sk, all_next]) | refine call_d hD ?_ (by simp -implicitDefEqProofs only [go_sem, seval, sk, all_next])
    simp -implicitDefEqProofs only [go_sem, seval, sk, opW]
    first | refine call_k hX ?_ (by simp -implicitDefEqProofs only [go_sem, seval, sk, Dev.cells]) | refine call_d hX ?_ (by simp -implicitDefEqProofs only [go_sem, seval, sk, Dev.cells])
    by_cases he3 : e3 = 0
    · subst he3
      simp -implicitDefEqProofs only [go_sem, seval, sk, opR, Dev.cells, opJ, Jr.cells, z8_T]
    · have n3 : (e3 != 0) = true := by simp [he3]
      simp -implicitDefEqProofs only [go_sem, seval, sk, opR, Dev.cells, n3, if_neg he3, opJ, zeroJ_cells]
  · have n2 : (e2 != 0) = true := by simp [he2]
    simp -implicitDefEqProofs only [go_sem, seval, sk, n2, if_neg he2, opJ, zeroJ_cells]
theorem s_journal_Crash (j : Jr) (hj : j.fine) (stage keep : Int) (s0 : -9223372036854775808 ≤ stage) (s1 : stage < 9223372036854775808) (k0 : -9223372036854775808 ≤ keep) (k1 : keep < 9223372036854775808) : Spec Try.prog 18 [.agg j.cells, .i .i64 stage, .i .i64 keep] [] (resV ((opJ (crashJ j stage keep)).map AV.ofT)) := by
  by_cases h : j.ok
  · by_cases h2 : 0 ≤ stage ∧ stage ≤ 5
    · rcases (by omega : stage = 0 ∨ stage = 1 ∨ stage = 2 ∨ stage = 3 ∨ stage = 4 ∨ stage = 5) with rfl | rfl | rfl | rfl | rfl | rfl
      · exact s_journal_Crash_s0 j hj h keep k0 k1
      · exact s_journal_Crash_s1 j hj h keep k0 k1
      · exact s_journal_Crash_s2 j hj h keep k0 k1
      · exact s_journal_Crash_s3 j hj h keep k0 k1
      · exact s_journal_Crash_s4 j hj h keep k0 k1
      · exact s_journal_Crash_s5 j hj h keep k0 k1
    · refine spec_k (hold mixed) b_journal_Crash (opJ (crashJ j stage keep)) ?_
      have hC := s_journal_Check j hj
      obtain ⟨hs, hl, h8, hc⟩ := hj
      have htk := clF_take (l := false) h8
      rw [chkJ_ok h] at hC
      simp -implicitDefEqProofs only [go_sem, seval, sk, Jr.cells, clF_map]
      refine ⟨by omega, ?_⟩
      first | refine call_k hC ?_ (by simp -implicitDefEqProofs only [go_sem, seval, sk, Jr.cells, htk]) | refine call_d hC ?_ (by simp -implicitDefEqProofs only [go_sem, seval, sk, Jr.cells, htk])
      have ev : crashJ j stage keep = (zeroJ, 2) := by rw [crashJ, if_pos h, if_neg h2]
      rw [ev]
      by_cases c1 : stage < 0
      · simp -implicitDefEqProofs only [go_sem, seval, sk, eq_true c1, opJ, zeroJ_cells]
      · simp -implicitDefEqProofs only [go_sem, seval, sk, eq_false c1, eq_true (show 5 < stage by omega), opJ, zeroJ_cells]
  · refine spec_k (hold mixed) b_journal_Crash (opJ (crashJ j stage keep)) ?_
    have hC := s_journal_Check j hj
    obtain ⟨hs, hl, h8, hc⟩ := hj
    have htk := clF_take (l := false) h8
    have ev : crashJ j stage keep = (zeroJ, 8) := by rw [crashJ, if_neg h]
    rw [chkJ_bad h] at hC
    rw [ev]
    simp -implicitDefEqProofs only [go_sem, seval, sk, Jr.cells, clF_map]
    refine ⟨by omega, ?_⟩
    first | refine call_k hC ?_ (by simp -implicitDefEqProofs only [go_sem, seval, sk, Jr.cells, htk]) | refine call_d hC ?_ (by simp -implicitDefEqProofs only [go_sem, seval, sk, Jr.cells, htk])
    simp -implicitDefEqProofs only [go_sem, seval, sk, opJ, zeroJ_cells]
set_option maxHeartbeats 1000000
theorem halved_open {j : Jr} (h : j.ok) {steps o : Int} (s0 : 0 ≤ steps) (s1 : steps ≤ 3) (hz : (halved j steps o).2 = 0) :
    (halved j steps o).1.d0.check = 0 ∧ (halved j steps o).1.d1.check = 0 ∧ ((newO (openS (halved j steps o).1).1 = some ⟨j.s.next, ptB j⟩ ∧ 2 ≤ steps) ∨ (newO (openS (halved j steps o).1).1 = newO j.s ∧ steps ≤ 2)) := by
  have f := facts h
  by_cases c : 0 < steps
  · by_cases c1 : (saveS j.s (ptB j)).2.2 = 0
    · rw [halved_half c c1] at hz ⊢
      obtain ⟨m, rfl⟩ : ∃ m : Nat, steps = m := ⟨steps.toNat, by omega⟩
      obtain ⟨g1, g2, g3⟩ := half_open f.neat (by omega) hz
      refine ⟨g1, g2, ?_⟩
      rcases g3 with ⟨g3, g4⟩ | ⟨g3, g4⟩
      · exact .inl ⟨g3, by omega⟩
      · exact .inr ⟨g3, by omega⟩
    · rw [halved_save c c1] at hz
      exact absurd hz c1
  · rw [halved_none c]
    obtain ⟨a1, a2⟩ := crash_calm h.1.1
    obtain ⟨b1, b2⟩ := crash_calm h.1.2.1
    refine ⟨a2, b2, .inr ⟨?_, by omega⟩⟩
    have e : openS ⟨(j.s.d0.crash 0).1, (j.s.d1.crash 0).1, j.s.next⟩ = (⟨openD (j.s.d0.crash 0).1, openD (j.s.d1.crash 0).1, nextO ⟨openD (j.s.d0.crash 0).1, openD (j.s.d1.crash 0).1, 0⟩⟩, 0) := if_pos ⟨a2, b2⟩
    rw [e, open_crash_calm h.1.1, open_crash_calm h.1.2.1]
    rfl
theorem halved_err {j : Jr} (h : j.ok) (ha : j.s.ask (ptB j) = 0) {steps o : Int} (s0 : 0 ≤ steps) (s1 : steps ≤ 3) : (halved j steps o).2 = 0 ∨ (halved j steps o).2 = 2 := by
  have h9 := ptB_len (facts h).j8
  have hsv : (saveS j.s (ptB j)).2.2 = 0 := by rw [saveS, if_pos ha]
  by_cases c : 0 < steps
  · rw [halved_half c hsv]
    have hcr : ∀ (d : Dev) (k : Int), (d.crash k).2 = 0 ∨ (d.crash k).2 = 2 ∨ d.upE ≠ 0 := fun d k => by
      by_cases hu : d.upE = 0
      · simp only [Dev.crash, orE, hu, if_true]
        split
        · exact .inl rfl
        · exact .inr (.inl rfl)
      · exact .inr (.inr hu)
    rcases half_err h.1 (show (ptB j).length ≤ 1000 by omega) (n := steps) (k := o) with g | g | g
    · exact .inl g
    · exact .inr g
    · exfalso
      revert g
      have hx : ∀ (d : Dev) (k : Int), (d.crash k).2 ≠ 18 := fun d k => by
        unfold Dev.crash orE
        split
        · split <;> simp
        · rename_i hu
          simp only
          unfold Dev.upE
          split
          · decide
          · split <;> decide
      unfold halfS
      rw [if_pos ha]
      split
      · split
        · split
          · simp
          · exact hx _ _
        · split
          · simp
          · exact hx _ _
      · simp
  · rw [halved_none c]
    exact .inl rfl
theorem crash_err {d : Dev} (hc : d.check = 0) (hd : d.down = false) (k : Int) : (d.crash k).2 = 0 ∨ (d.crash k).2 = 2 := by
  have hu := upE_of hc hd
  simp only [Dev.crash, orE, hu, if_true]
  split
  · exact .inl rfl
  · exact .inr rfl
theorem crLog_ok {j : Jr} (h : j.ok) (stage : Int) : (crLog j stage).ok := by
  unfold crLog
  split
  · exact h.2.1
  · split
    · exact (none_ok h.2.1).1
    · exact (all_ok h.2.1).1
theorem crashJ_err {j : Jr} (h : j.ok) (ha : j.s.ask (ptB j) = 0) (stage keep : Int) : (crashJ j stage keep).2 = 0 ∨ (crashJ j stage keep).2 = 2 := by
  rw [crashJ, if_pos h]
  split
  · have hl := crLog_ok h stage
    rcases halved_err h ha (steps := max 0 (min (stage - 1) 3)) (o := if stage = 3 then keep else 0) (by omega) (by omega) with g | g
    · rw [if_pos g]
      rcases crash_err hl.1 hl.2.1 (if stage = 3 then 0 else keep) with g2 | g2
      · rw [if_pos g2]; exact .inl rfl
      · rw [if_neg (by rw [g2]; decide)]; exact .inr g2
    · rw [if_neg (by rw [g]; decide)]; exact .inr g
  · exact .inr rfl
theorem crashJ_parts {j : Jr} (h : j.ok) {stage keep : Int} (hz : (crashJ j stage keep).2 = 0) : 0 ≤ stage ∧ stage ≤ 5 ∧ (halved j (max 0 (min (stage - 1) 3)) (if stage = 3 then keep else 0)).2 = 0 ∧ ((crLog j stage).dev.crash (if stage = 3 then 0 else keep)).2 = 0 ∧
    (crashJ j stage keep).1 = ⟨(halved j (max 0 (min (stage - 1) 3)) (if stage = 3 then keep else 0)).1, ⟨((crLog j stage).dev.crash (if stage = 3 then 0 else keep)).1, (crLog j stage).first, (crLog j stage).next⟩, z8⟩ := by
  rw [crashJ, if_pos h] at hz ⊢
  split at hz
  · rename_i g1
    rw [if_pos g1]
    by_cases g2 : (halved j (max 0 (min (stage - 1) 3)) (if stage = 3 then keep else 0)).2 = 0
    · rw [if_pos g2] at hz ⊢
      by_cases g3 : ((crLog j stage).dev.crash (if stage = 3 then 0 else keep)).2 = 0
      · rw [if_pos g3]
        exact ⟨g1.1, g1.2, g2, g3, rfl⟩
      · rw [if_neg g3] at hz
        exact absurd hz g3
    · rw [if_neg g2] at hz
      exact absurd hz g2
  · cases hz
def Jr.sure (j : Jr) : Int := max (baseV j.s).1 (j.l.first + (scanL j.l.dev.syn).length)
end Go.Proofs.Ytlfpafdkegnkoaa.Pm
