/- Texts of this proof in one file: PmSe, PmSf, PmSq. No law of Go's is stated here. -/
import Derived.Test.YtlfpafdkegnkoaaPmMh
import Derived.Test.YtlfpafdkegnkoaaPmMf
set_option linter.all false
set_option maxRecDepth 100000
set_option maxHeartbeats 2000000
namespace Go.Proofs.Ytlfpafdkegnkoaa.Pm
open Go Go.RowKit
def newS (n : Int) : Slt × Int := if (newD n).2 = 0 then (⟨(newD n).1, (newD n).1, 1⟩, 0) else (zeroS, (newD n).2)
theorem s_slots_New (n : Int) : Spec Try.prog 25 [.i .i64 n] [] (resV ((opS (newS n)).map AV.ofT)) := by
  refine spec_k (hold mixed) b_slots_New (opS (newS n)) ?_
  have hN := s_disk_New n
  by_cases h : (newD n).2 = 0
  · have ev : newS n = (⟨(newD n).1, (newD n).1, 1⟩, 0) := if_pos h
    rw [ev]
    generalize newD n = p at *
    simp -implicitDefEqProofs only [go_sem, seval, sk]
    refine call_k hN ?_
    simp -implicitDefEqProofs only [go_sem, seval, sk, opR, h, opS]
  · have ev : newS n = (zeroS, (newD n).2) := if_neg h
    have h' : ((newD n).2 != 0) = true := by simp [h]
    rw [ev]
    generalize newD n = p at *
    simp -implicitDefEqProofs only [go_sem, seval, sk]
    refine call_k hN ?_
    simp -implicitDefEqProofs only [go_sem, seval, sk, opR, h', opS, zeroS_cells]
    try rfl
theorem nextO_bounds (s : Slt) : 1 ≤ nextO s ∧ nextO s ≤ 1000000001 := by
  unfold nextO
  cases ho : newO s with
  | none => exact ⟨by show (1 : Int) ≤ 1; omega, by show (1 : Int) ≤ 1000000001; omega⟩
  | some r =>
    have := newO_ok ho
    exact ⟨by show 1 ≤ r.num + 1; omega, by show r.num + 1 ≤ _; omega⟩
theorem openS_fine {s : Slt} (hs : s.fine) : (openS s).1.fine := by
  unfold openS
  split
  · rename_i h
    have := nextO_bounds ⟨openD s.d0, openD s.d1, 0⟩
    exact ⟨openD_small hs.1 h.1, openD_small hs.2.1 h.2, by show -9223372036854775808 ≤ nextO _; omega, by show nextO _ ≤ _; omega⟩
  · exact ⟨zeroD_small, zeroD_small, by show (-9223372036854775808 : Int) ≤ 0; omega, by show (0 : Int) ≤ 9223372036854775807; omega⟩
structure Slt.has (s : Slt) (n : Int) (b : List (BitVec 8)) : Prop where
  fine : s.fine
  open0 : (openS s).2 = 0
  load : loadS (openS s).1 = (n, b, 0)
  next : (openS s).1.next = n + 1
  lo : 0 ≤ n
  hi : n ≤ 1000000000
instance (d : Dev) : Decidable d.small := by unfold Dev.small; infer_instance
instance (s : Slt) : Decidable s.fine := by unfold Slt.fine; infer_instance
theorem rec_follows {r : Rec} (h : r.ok = true) : follows [r] = true := follows_of (fun q hq => by simp at hq; subst hq; exact h) (fun k hk => by simp at hk)
theorem scan_one {r : Rec} (h : r.ok = true) : scanL (bytesL r) = [r] := by
  have := scan_whole (rec_follows h)
  simpa [catR] using this
theorem scan_part {r : Rec} (h : r.ok = true) {k : Nat} (hk : k < (bytesL r).length) : scanL ((bytesL r).take k) = [] := by
  have := scan_torn (rec_follows h) (n := k) (k := 0) (by simp [catR]; omega) (Nat.zero_le _) (by simp [catR]) (fun _ => by simpa [catR] using hk)
  simpa [catR] using this
theorem openD_calm {d : Dev} (h : d.check = 0) : (openD d).calm := ⟨openD_check h, rfl, rfl⟩
theorem openS_ok {s : Slt} (h0 : s.d0.check = 0) (h1 : s.d1.check = 0) : (openS s).1.ok := by
  have e : openS s = (⟨openD s.d0, openD s.d1, nextO ⟨openD s.d0, openD s.d1, 0⟩⟩, 0) := if_pos ⟨h0, h1⟩
  rw [e]
  have := nextO_bounds ⟨openD s.d0, openD s.d1, 0⟩
  exact ⟨openD_calm h0, openD_calm h1, this.1, this.2⟩
structure Slt.neat (s : Slt) : Prop where
  ok : s.ok
  next : s.next = nextO s
theorem par_ne {n : Int} (h0 : 0 ≤ n) : (n + 1).tmod 2 = 1 - n.tmod 2 := by
  have h1 : n.tmod 2 = n % 2 := Int.tmod_eq_emod_of_nonneg h0
  have h2 : (n + 1).tmod 2 = (n + 1) % 2 := Int.tmod_eq_emod_of_nonneg (by omega)
  omega
theorem cp_par {d : Dev} {i : Int} {r : Rec} (h : d.cp i = some r) : r.num.tmod 2 = i := by
  unfold Dev.cp at h
  split at h
  · cases h
  · split at h
    · cases h; assumption
    · cases h
theorem neat0 {s : Slt} (h : s.neat) (hp : s.next.tmod 2 = 0) : newO s = s.d1.cp 1 ∧ ∀ b, s.d1.cp 1 = some b → b.num < s.next := by
  have hn := h.next
  unfold nextO at hn
  cases h0 : s.d0.cp 0 with
  | none =>
    have e : newO s = s.d1.cp 1 := by simp only [newO, h0]
    refine ⟨e, fun b hb => ?_⟩
    rw [e, hb] at hn
    simp only at hn
    omega
  | some a =>
    have ha := cp_par h0
    have hao := cp_ok h0
    cases h1 : s.d1.cp 1 with
    | none =>
      have e : newO s = some a := by simp only [newO, h0, h1]
      rw [e] at hn
      simp only at hn
      have := par_ne hao.1
      rw [← hn, hp, ha] at this
      omega
    | some b =>
      by_cases q : a.num < b.num
      · have e : newO s = some b := by simp only [newO, h0, h1, if_pos q]
        refine ⟨e, fun c hc => ?_⟩
        cases hc
        rw [e] at hn
        simp only at hn
        omega
      · have e : newO s = some a := by simp only [newO, h0, h1, if_neg q]
        rw [e] at hn
        simp only at hn
        have := par_ne hao.1
        rw [← hn, hp, ha] at this
        omega
theorem neat1 {s : Slt} (h : s.neat) (hp : s.next.tmod 2 = 1) : newO s = s.d0.cp 0 ∧ ∀ b, s.d0.cp 0 = some b → b.num < s.next := by
  have hn := h.next
  unfold nextO at hn
  cases h0 : s.d0.cp 0 with
  | none =>
    cases h1 : s.d1.cp 1 with
    | none =>
      have e : newO s = none := by simp only [newO, h0, h1]
      exact ⟨e, fun b hb => by cases hb⟩
    | some b =>
      have e : newO s = some b := by simp only [newO, h0, h1]
      rw [e] at hn
      simp only at hn
      have := par_ne (cp_ok h1).1
      rw [← hn, hp, cp_par h1] at this
      omega
  | some a =>
    cases h1 : s.d1.cp 1 with
    | none =>
      have e : newO s = some a := by simp only [newO, h0, h1]
      refine ⟨e, fun c hc => ?_⟩
      cases hc
      rw [e] at hn
      simp only at hn
      omega
    | some b =>
      by_cases q : a.num < b.num
      · have e : newO s = some b := by simp only [newO, h0, h1, if_pos q]
        rw [e] at hn
        simp only at hn
        have := par_ne (cp_ok h1).1
        rw [← hn, hp, cp_par h1] at this
        omega
      · have e : newO s = some a := by simp only [newO, h0, h1, if_neg q]
        refine ⟨e, fun c hc => ?_⟩
        cases hc
        rw [e] at hn
        simp only at hn
        omega
theorem put0_none {e d : Dev} {n : Int} (h : e.cp 0 = none) : newO ⟨e, d, n⟩ = d.cp 1 := by simp only [newO, h]
theorem put1_none {e d : Dev} {n : Int} (h : e.cp 1 = none) : newO ⟨d, e, n⟩ = d.cp 0 := by
  simp only [newO, h]
  cases d.cp 0 <;> rfl
theorem put0_some {e d : Dev} {n : Int} {r : Rec} (h : e.cp 0 = some r) (hb : ∀ b, d.cp 1 = some b → b.num < r.num) : newO ⟨e, d, n⟩ = some r := by
  simp only [newO, h]
  cases h1 : d.cp 1 with
  | none => rfl
  | some b =>
    have := hb b h1
    simp only [if_neg (show ¬ r.num < b.num by omega)]
theorem put1_some {e d : Dev} {n : Int} {r : Rec} (h : e.cp 1 = some r) (hb : ∀ b, d.cp 0 = some b → b.num < r.num) : newO ⟨d, e, n⟩ = some r := by
  simp only [newO, h]
  cases h1 : d.cp 0 with
  | none => rfl
  | some b =>
    have := hb b h1
    simp only [if_pos this]
theorem stepD_1 {d : Dev} (h : d.calm) (b : List (BitVec 8)) : stepD d b 1 = ⟨[], [], d.cap, false⟩ := by
  have hu := upE_calm h
  show (d.trunc 0).1 = _
  simp [Dev.trunc, orE, hu]
theorem empty_ok {d : Dev} (h : d.calm) : (⟨[], [], d.cap, false⟩ : Dev).check = 0 := by
  obtain ⟨k1, k2, k3⟩ := d.ok_of h.1
  exact check_of k1 k2 (by simp; omega) (fun h => by cases h)
theorem stepD_2 {d : Dev} (h : d.calm) {b : List (BitVec 8)} (hb : (b.length : Int) ≤ d.cap) : stepD d b 2 = ⟨[], b, d.cap, false⟩ := by
  have hu := upE_of (empty_ok h) rfl
  have e1 : (d.trunc 0).1 = ⟨[], [], d.cap, false⟩ := stepD_1 h b
  show ((d.trunc 0).1.app b).1 = _
  rw [e1]
  simp [Dev.app, orE, hu, hb]
theorem full_ok {d : Dev} (h : d.calm) {b : List (BitVec 8)} (hb : (b.length : Int) ≤ d.cap) : (⟨[], b, d.cap, false⟩ : Dev).check = 0 := by
  obtain ⟨k1, k2, k3⟩ := d.ok_of h.1
  exact check_of k1 k2 (by simp; omega) (fun h => by cases h)
theorem stepD_3 {d : Dev} (h : d.calm) {b : List (BitVec 8)} (hb : (b.length : Int) ≤ d.cap) : stepD d b 3 = ⟨b, [], d.cap, false⟩ := by
  have hu := upE_of (full_ok h hb) rfl
  have e1 : ((d.trunc 0).1.app b).1 = ⟨[], b, d.cap, false⟩ := stepD_2 h hb
  show (((d.trunc 0).1.app b).1.sync).1 = _
  rw [e1]
  simp [Dev.sync, orE, hu, Dev.all]
theorem saved_calm {d : Dev} (h : d.calm) {b : List (BitVec 8)} (hb : (b.length : Int) ≤ d.cap) : (⟨b, [], d.cap, false⟩ : Dev).calm := by
  obtain ⟨k1, k2, k3⟩ := d.ok_of h.1
  exact ⟨check_of k1 k2 (by simp; omega) (fun h => by cases h), rfl, rfl⟩
theorem cp_saved {r : Rec} (h : r.ok = true) {c : Int} {w : Bool} {i : Int} (hp : r.num.tmod 2 = i) : (⟨bytesL r, [], c, w⟩ : Dev).cp i = some r :=
  cp_some (rs := []) (by show scanL (bytesL r ++ []) = _; rw [List.append_nil]; exact scan_one h) hp
theorem save_neat {s : Slt} (h : s.neat) {b : List (BitVec 8)} (ha : s.ask b = 0) :
    ((s.step (bytesL ⟨s.next, b⟩) 3).setN (s.next + 1)).neat ∧ newO ((s.step (bytesL ⟨s.next, b⟩) 3).setN (s.next + 1)) = some ⟨s.next, b⟩ := by
  obtain ⟨hok, a1, a2, a3⟩ := ask_zero ha
  obtain ⟨c0, c1, n0, n1⟩ := hok
  have hbl : (bytesL ⟨s.next, b⟩).length = 12 + b.length := bytesL_length _
  have hrk : (Rec.mk s.next b).ok = true := (Rec.ok_iff _).2 ⟨by show 0 ≤ s.next; omega, a2, a1⟩
  rcases par2 n0 with hp | hp
  · have hdv : s.dev = s.d0 := if_pos hp
    rw [hdv] at a3
    have est : s.step (bytesL ⟨s.next, b⟩) 3 = ⟨stepD s.d0 (bytesL ⟨s.next, b⟩) 3, s.d1, s.next⟩ := if_pos hp
    have hb : ((bytesL ⟨s.next, b⟩).length : Int) ≤ s.d0.cap := by rw [hbl]; omega
    rw [est, stepD_3 c0 hb]
    have hN : newO ⟨⟨bytesL ⟨s.next, b⟩, [], s.d0.cap, false⟩, s.d1, s.next + 1⟩ = some ⟨s.next, b⟩ := put0_some (cp_saved hrk hp) (neat0 h hp).2
    have hE : nextO ⟨⟨bytesL ⟨s.next, b⟩, [], s.d0.cap, false⟩, s.d1, s.next + 1⟩ = s.next + 1 := by unfold nextO; rw [hN]
    exact ⟨⟨⟨saved_calm c0 hb, c1, by show 1 ≤ s.next + 1; omega, by show s.next + 1 ≤ _; omega⟩, hE.symm⟩, hN⟩
  · have hdv : s.dev = s.d1 := if_neg (by omega)
    rw [hdv] at a3
    have est : s.step (bytesL ⟨s.next, b⟩) 3 = ⟨s.d0, stepD s.d1 (bytesL ⟨s.next, b⟩) 3, s.next⟩ := if_neg (by omega)
    have hb : ((bytesL ⟨s.next, b⟩).length : Int) ≤ s.d1.cap := by rw [hbl]; omega
    rw [est, stepD_3 c1 hb]
    have hN : newO ⟨s.d0, ⟨bytesL ⟨s.next, b⟩, [], s.d1.cap, false⟩, s.next + 1⟩ = some ⟨s.next, b⟩ := put1_some (cp_saved hrk hp) (neat1 h hp).2
    have hE : nextO ⟨s.d0, ⟨bytesL ⟨s.next, b⟩, [], s.d1.cap, false⟩, s.next + 1⟩ = s.next + 1 := by unfold nextO; rw [hN]
    exact ⟨⟨⟨c0, saved_calm c1 hb, by show 1 ≤ s.next + 1; omega, by show s.next + 1 ≤ _; omega⟩, hE.symm⟩, hN⟩
theorem crash_some {d : Dev} {k : Int} (h : (d.crash k).2 = 0) : ∃ j : Nat, k = j ∧ j ≤ d.tail.length ∧ (d.crash k).1 = ⟨d.syn ++ d.tail.take j, [], d.cap, true⟩ ∧ (d.crash k).1.check = 0 := by
  have hck := crash_check h
  unfold Dev.crash at h hck ⊢
  obtain ⟨hc, hu, e⟩ := orE_zero h
  rw [e] at h hck ⊢
  split at h
  · rename_i hk
    rw [if_pos hk] at hck ⊢
    obtain ⟨j, rfl⟩ : ∃ j : Nat, k = j := ⟨k.toNat, by omega⟩
    exact ⟨j, rfl, by omega, by simp, hck⟩
  · cases h
theorem crash_calm {d : Dev} (h : d.calm) : (d.crash 0).1 = ⟨d.syn, [], d.cap, true⟩ ∧ (d.crash 0).1.check = 0 := by
  obtain ⟨j, hj, hl, e, hc⟩ := crash_some (calm_crash h)
  have : j = 0 := by omega
  subst this
  exact ⟨by rw [e]; simp, hc⟩
theorem open_crash_calm {d : Dev} (h : d.calm) : openD (d.crash 0).1 = d := by
  rw [(crash_calm h).1]
  obtain ⟨_, h1, h2⟩ := h
  cases d
  simp at h1 h2
  subst h1 h2
  simp [openD, Dev.all]
theorem part_cases {d : Dev} (h : d.calm) {r : Rec} (hr : r.ok = true) (hb : ((bytesL r).length : Int) ≤ d.cap) {m : Nat} (hm : m ≤ 3) {k : Int} (hk : ((stepD d (bytesL r) m).crash k).2 = 0) :
    ((stepD d (bytesL r) m).crash k).1.check = 0 ∧ ((scanL (openD ((stepD d (bytesL r) m).crash k).1).all = [r] ∧ 2 ≤ m) ∨ (scanL (openD ((stepD d (bytesL r) m).crash k).1).all = [] ∧ 1 ≤ m ∧ m ≤ 2) ∨ (openD ((stepD d (bytesL r) m).crash k).1 = d ∧ m = 0)) := by
  have hs1 := scan_one hr
  have hs2 := fun k (hk : k < (bytesL r).length) => scan_part hr hk
  generalize bytesL r = bs at *
  have hm4 : m = 0 ∨ m = 1 ∨ m = 2 ∨ m = 3 := by omega
  rcases hm4 with rfl | rfl | rfl | rfl
  · have e0 : stepD d bs 0 = d := rfl
    rw [e0] at hk ⊢
    obtain ⟨j, rfl, hl, e, hc⟩ := crash_some hk
    refine ⟨hc, .inr (.inr ⟨?_, rfl⟩)⟩
    have hj : j = 0 := by rw [h.2.2] at hl; exact Nat.le_zero.1 hl
    subst hj
    exact open_crash_calm h
  · rw [stepD_1 h] at hk ⊢
    obtain ⟨j, rfl, hl, e, hc⟩ := crash_some hk
    refine ⟨hc, .inr (.inl ⟨?_, by omega, by omega⟩)⟩
    rw [openD_all, e]
    have : (⟨[] ++ ([] : List (BitVec 8)).take j, [], d.cap, true⟩ : Dev).all = [] := by simp [Dev.all]
    rw [this]
    rfl
  · rw [stepD_2 h hb] at hk ⊢
    obtain ⟨j, rfl, hl, e, hc⟩ := crash_some hk
    refine ⟨hc, ?_⟩
    rw [openD_all, e]
    have ea : (⟨[] ++ bs.take j, [], d.cap, true⟩ : Dev).all = bs.take j := by simp [Dev.all]
    rw [ea]
    by_cases hj : j < bs.length
    · exact .inr (.inl ⟨hs2 j hj, by omega, by omega⟩)
    · rw [List.take_of_length_le (by omega)]
      exact .inl ⟨hs1, by omega⟩
  · rw [stepD_3 h hb] at hk ⊢
    obtain ⟨j, rfl, hl, e, hc⟩ := crash_some hk
    refine ⟨hc, .inl ⟨?_, by omega⟩⟩
    rw [openD_all, e]
    have ea : (⟨bs ++ ([] : List (BitVec 8)).take j, [], d.cap, true⟩ : Dev).all = bs := by simp [Dev.all]
    rw [ea]
    exact hs1
theorem half_open {s : Slt} (h : s.neat) {b : List (BitVec 8)} {m : Nat} (hm : m ≤ 3) {k : Int} (hz : (halfS s b m k).2 = 0) :
    (halfS s b m k).1.d0.check = 0 ∧ (halfS s b m k).1.d1.check = 0 ∧ ((newO (openS (halfS s b m k).1).1 = some ⟨s.next, b⟩ ∧ 2 ≤ m) ∨ (newO (openS (halfS s b m k).1).1 = newO s ∧ m ≤ 2)) := by
  have ha : s.ask b = 0 := by
    by_cases ha : s.ask b = 0
    · exact ha
    · unfold halfS at hz
      rw [if_neg ha] at hz
      exact absurd hz ha
  obtain ⟨hok, a1, a2, a3⟩ := ask_zero ha
  obtain ⟨c0, c1, n0, n1⟩ := hok
  have c2 : (0 ≤ (m : Int) ∧ (m : Int) ≤ 3) := by omega
  have e3 : ((m : Int)).toNat = m := by omega
  have hbl : (bytesL ⟨s.next, b⟩).length = 12 + b.length := bytesL_length _
  have hrk : (Rec.mk s.next b).ok = true := (Rec.ok_iff _).2 ⟨by show 0 ≤ s.next; omega, a2, a1⟩
  rcases par2 n0 with hp | hp
  · have hdv : s.dev = s.d0 := if_pos hp
    rw [hdv] at a3
    have hb : ((bytesL ⟨s.next, b⟩).length : Int) ≤ s.d0.cap := by rw [hbl]; omega
    unfold halfS at hz ⊢
    rw [if_pos ha, if_pos c2, if_pos hp, e3] at hz ⊢
    split at hz
    · rename_i hk
      rw [if_pos hk]
      obtain ⟨g1, g2⟩ := part_cases c0 hrk hb hm hk
      obtain ⟨f1, f2⟩ := crash_calm c1
      refine ⟨g1, f2, ?_⟩
      have e : openS ⟨((stepD s.d0 (bytesL ⟨s.next, b⟩) m).crash k).1, (s.d1.crash 0).1, s.next⟩ = (⟨openD ((stepD s.d0 (bytesL ⟨s.next, b⟩) m).crash k).1, openD (s.d1.crash 0).1, nextO ⟨openD ((stepD s.d0 (bytesL ⟨s.next, b⟩) m).crash k).1, openD (s.d1.crash 0).1, 0⟩⟩, 0) := if_pos ⟨g1, f2⟩
      rw [e, open_crash_calm c1]
      obtain ⟨q1, q2⟩ := neat0 h hp
      rcases g2 with ⟨g2, g3⟩ | ⟨g2, g3, g4⟩ | ⟨g2, g3⟩
      · exact .inl ⟨put0_some (cp_some g2 hp) q2, g3⟩
      · exact .inr ⟨by rw [q1]; exact put0_none (cp_none0 g2), g4⟩
      · exact .inr ⟨by rw [g2]; rfl, by omega⟩
    · rename_i hk
      exact absurd hz hk
  · have hp' : ¬ s.next.tmod 2 = 0 := by omega
    have hdv : s.dev = s.d1 := if_neg hp'
    rw [hdv] at a3
    have hb : ((bytesL ⟨s.next, b⟩).length : Int) ≤ s.d1.cap := by rw [hbl]; omega
    unfold halfS at hz ⊢
    rw [if_pos ha, if_pos c2, if_neg hp', e3] at hz ⊢
    split at hz
    · rename_i hk
      rw [if_pos hk]
      obtain ⟨g1, g2⟩ := part_cases c1 hrk hb hm hk
      obtain ⟨f1, f2⟩ := crash_calm c0
      refine ⟨f2, g1, ?_⟩
      have e : openS ⟨(s.d0.crash 0).1, ((stepD s.d1 (bytesL ⟨s.next, b⟩) m).crash k).1, s.next⟩ = (⟨openD (s.d0.crash 0).1, openD ((stepD s.d1 (bytesL ⟨s.next, b⟩) m).crash k).1, nextO ⟨openD (s.d0.crash 0).1, openD ((stepD s.d1 (bytesL ⟨s.next, b⟩) m).crash k).1, 0⟩⟩, 0) := if_pos ⟨f2, g1⟩
      rw [e, open_crash_calm c0]
      obtain ⟨q1, q2⟩ := neat1 h hp
      rcases g2 with ⟨g2, g3⟩ | ⟨g2, g3, g4⟩ | ⟨g2, g3⟩
      · exact .inl ⟨put1_some (cp_some g2 hp) q2, g3⟩
      · exact .inr ⟨by rw [q1]; exact put1_none (cp_none0 g2), g4⟩
      · exact .inr ⟨by rw [g2]; rfl, by omega⟩
    · rename_i hk
      exact absurd hz hk
theorem half_err {s : Slt} (h : s.ok) {b : List (BitVec 8)} (hb : b.length ≤ 1000) {n k : Int} : (halfS s b n k).2 = 0 ∨ (halfS s b n k).2 = 2 ∨ (halfS s b n k).2 = 18 := by
  have hcr : ∀ (d : Dev) (k : Int), d.upE = 0 → (d.crash k).2 = 0 ∨ (d.crash k).2 = 2 := fun d k hu => by
    simp only [Dev.crash, orE, hu, if_true]
    split
    · exact .inl rfl
    · exact .inr rfl
  unfold halfS
  by_cases ha : s.ask b = 0
  · obtain ⟨hok, a1, a2, a3⟩ := ask_zero ha
    have hbl : (bytesL ⟨s.next, b⟩).length = 12 + b.length := bytesL_length _
    rw [if_pos ha]
    split
    · rename_i hn
      have hst : ∀ d : Dev, d.calm → (12 + b.length : Int) ≤ d.cap → (stepD d (bytesL ⟨s.next, b⟩) n.toNat).upE = 0 := fun d hd hc => by
        have hb' : ((bytesL ⟨s.next, b⟩).length : Int) ≤ d.cap := by rw [hbl]; omega
        have : n.toNat ≤ 3 := by omega
        match n.toNat, this with
        | 0, _ => exact upE_calm hd
        | 1, _ => rw [stepD_1 hd]; exact upE_of (empty_ok hd) rfl
        | 2, _ => rw [stepD_2 hd hb']; exact upE_of (full_ok hd hb') rfl
        | 3, _ => rw [stepD_3 hd hb']; exact upE_calm (saved_calm hd hb')
      split
      · rename_i hp
        rw [show s.dev = s.d0 from if_pos hp] at a3
        split
        · exact .inl rfl
        · rename_i hz
          rcases hcr _ k (hst s.d0 h.1 a3) with q | q
          · exact absurd q hz
          · exact .inr (.inl q)
      · rename_i hp
        rw [show s.dev = s.d1 from if_neg hp] at a3
        split
        · exact .inl rfl
        · rename_i hz
          rcases hcr _ k (hst s.d1 h.2.1 a3) with q | q
          · exact absurd q hz
          · exact .inr (.inl q)
    · exact .inr (.inl rfl)
  · rw [if_neg ha]
    have : s.ask b = 0 ∨ s.ask b = 2 ∨ s.ask b = 18 := by
      simp only [Slt.ask, if_pos h, if_pos hb]
      split
      · split
        · exact .inl rfl
        · exact .inr (.inr rfl)
      · exact .inr (.inl rfl)
    exact this
theorem load_of {s : Slt} (h : s.ok) : loadS s = match newO s with
  | some r => (r.num, r.data, 0)
  | none => (0, [], 6) := if_pos h
theorem halfS_small' (s : Slt) (b : List (BitVec 8)) (n k : Int) : (halfS s b n k).1.d0.small ∧ (halfS s b n k).1.d1.small := by
  unfold halfS
  split
  · split
    · split
      · split
        · exact ⟨crash_small _ _, crash_small _ _⟩
        · exact ⟨zeroD_small, zeroD_small⟩
      · split
        · exact ⟨crash_small _ _, crash_small _ _⟩
        · exact ⟨zeroD_small, zeroD_small⟩
    · exact ⟨zeroD_small, zeroD_small⟩
  · exact ⟨zeroD_small, zeroD_small⟩
theorem halfS_next (s : Slt) (b : List (BitVec 8)) (n k : Int) : (halfS s b n k).1.next = s.next ∨ (halfS s b n k).1.next = 0 := by
  unfold halfS
  split
  · split
    · split
      · split
        · exact .inl rfl
        · exact .inr rfl
      · split
        · exact .inl rfl
        · exact .inr rfl
    · exact .inr rfl
  · exact .inr rfl
theorem ok_fine {s : Slt} (h : s.ok) : s.fine := by
  have h0 := s.d0.ok_of h.1.1
  have h1 := s.d1.ok_of h.2.1.1
  obtain ⟨_, _, n0, n1⟩ := h
  exact ⟨⟨by omega, by omega⟩, ⟨by omega, by omega⟩, by omega, by omega⟩
end Go.Proofs.Ytlfpafdkegnkoaa.Pm
