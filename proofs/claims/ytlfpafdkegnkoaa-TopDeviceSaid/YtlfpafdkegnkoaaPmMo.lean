/- Texts of this proof in one file: PmEt, PmEu, PmEv, PmEw, PmEz, PmIb. No law of Go's is stated here. -/
import Derived.Test.YtlfpafdkegnkoaaPmMn
import Derived.Test.YtlfpafdkegnkoaaPmMm
import Derived.Test.YtlfpafdkegnkoaaPmQs
set_option linter.all false
set_option maxRecDepth 100000
set_option maxHeartbeats 2000000
namespace Go.Proofs.Ytlfpafdkegnkoaa.Pm
open Go Go.RowKit
def Jr.room (j : Jr) (k : Int) : Prop := 100 ≤ j.s.d0.cap ∧ 100 ≤ j.s.d1.cap ∧ 21 * k ≤ j.l.dev.cap - j.l.dev.all.length ∧ (∀ x ∈ j.c, 1000000 * k - 1000000000 ≤ x ∧ x ≤ 1000000000 - 1000000 * k) ∧ j.l.next < 1000000 ∧ j.s.next < 1000000
instance decRoom (j : Jr) (k : Int) : Decidable (j.room k) := by unfold Jr.room; infer_instance
theorem halved_fine {j : Jr} (hj : j.fine) (st o : Int) : (halved j st o).1.fine := by
  obtain ⟨hs, hl, h8, hc⟩ := hj
  by_cases c : 0 < st
  · by_cases c1 : (saveS j.s (ptB j)).2.2 = 0
    · rw [halved_half c c1]
      obtain ⟨a, b⟩ := halfS_small' j.s (ptB j) st o
      rcases halfS_next j.s (ptB j) st o with g | g
      · exact ⟨a, b, by rw [g]; exact hs.2.2⟩
      · exact ⟨a, b, by rw [g]; decide⟩
    · rw [halved_save c c1]
      exact ⟨zeroD_small, zeroD_small, by show (-9223372036854775808 : Int) ≤ 0; decide, by show (0 : Int) ≤ 9223372036854775807; decide⟩
  · rw [halved_none c]
    exact ⟨crash_small _ _, crash_small _ _, hs.2.2⟩
theorem crashJ_fine {j : Jr} (hj : j.fine) (st k : Int) : (crashJ j st k).1.s.fine ∧ (crashJ j st k).1.l.dev.small ∧ (crashJ j st k).1.c.length = 8 := by
  have hz : zeroJ.s.fine ∧ zeroJ.l.dev.small ∧ zeroJ.c.length = 8 := ⟨⟨zeroD_small, zeroD_small, by decide⟩, zeroD_small, rfl⟩
  unfold crashJ
  by_cases c0 : j.ok
  · rw [if_pos c0]
    by_cases c1 : 0 ≤ st ∧ st ≤ 5
    · rw [if_pos c1]
      by_cases c2 : (halved j (max 0 (min (st - 1) 3)) (if st = 3 then k else 0)).2 = 0
      · rw [if_pos c2]
        by_cases c3 : ((crLog j st).dev.crash (if st = 3 then 0 else k)).2 = 0
        · rw [if_pos c3]
          exact ⟨halved_fine hj _ _, crash_small _ _, rfl⟩
        · rw [if_neg c3]; exact hz
      · rw [if_neg c2]; exact hz
    · rw [if_neg c1]; exact hz
  · rw [if_neg c0]; exact hz
theorem recoverJ_len {j : Jr} : (recoverJ j).1.c.length = 8 := by
  unfold recoverJ
  split
  · split
    · split
      · rename_i h
        exact (facts h).j8
      · rfl
    · rfl
  · rfl
def J0 : Jr := (newJ 1000).1
def J1 : Jr := (doJ J0 (0, 5)).1
instance decSmallJ (d : Dev) : Decidable d.small := by unfold Dev.small; infer_instance
instance decFineS (s : Slt) : Decidable s.fine := by unfold Slt.fine; infer_instance
instance decFineW (s : WLog) : Decidable s.fine := by unfold WLog.fine; infer_instance
instance decFineJ (j : Jr) : Decidable j.fine := by unfold Jr.fine; infer_instance
set_option maxHeartbeats 1000000
theorem crash0_ne (d : Dev) : (d.crash 0).2 ≠ 2 := by
  unfold Dev.crash orE
  split
  · rw [if_pos ⟨Int.le_refl _, by omega⟩]
    simp
  · simp only
    unfold Dev.upE
    split
    · decide
    · split <;> decide
theorem halved_zero {j : Jr} (h : j.ok) (ha : j.s.ask (ptB j) = 0) {steps : Int} (s0 : 0 ≤ steps) (s1 : steps ≤ 3) : (halved j steps 0).2 = 0 := by
  have hsv : (saveS j.s (ptB j)).2.2 = 0 := by rw [saveS, if_pos ha]
  rcases halved_err h ha s0 s1 (o := 0) with g | g
  · exact g
  · exfalso
    by_cases c : 0 < steps
    · rw [halved_half c hsv] at g
      revert g
      unfold halfS
      rw [if_pos ha, if_pos ⟨s0, s1⟩]
      split
      · split
        · simp
        · exact crash0_ne _
      · split
        · simp
        · exact crash0_ne _
    · rw [halved_none c] at g
      cases g
theorem crashJ_zero {j : Jr} (h : j.ok) (ha : j.s.ask (ptB j) = 0) {stage : Int} (s0 : 0 ≤ stage) (s1 : stage ≤ 5) : (crashJ j stage 0).2 = 0 := by
  have hl := crLog_ok h stage
  have e1 : (if stage = 3 then (0 : Int) else 0) = 0 := by split <;> rfl
  rw [crashJ, if_pos h, if_pos ⟨s0, s1⟩, e1, if_pos (halved_zero h ha (by omega) (by omega))]
  rcases crash_err hl.1 hl.2.1 0 with g | g
  · rw [if_pos g]
  · exact absurd g (crash0_ne _)
structure SavesF (j : Jr) (stage : Int) : Prop where
  back : ∃ r : Jr, recoverJ j = (r, j.l.next, 0) ∧ r.c = j.c ∧ r.l = j.l.all ∧ r.s = j.s
  sync : syncJ j = (⟨j.s, j.l.all, j.c⟩, 0)
  save : ∃ s2 : Slt, saveJ j = (⟨s2, j.l.none, j.c⟩, 0) ∧ s2.ok ∧ (Jr.mk s2 j.l.none j.c).ok
  crash : ∃ d : Jr, crashJ j stage 0 = (d, 0) ∧ ∃ a : Jr, recoverJ d = (a, j.l.next, 0) ∧ a.c = j.c
def goC (c : List Int) (l : List (Int × Int)) : List Int := l.foldl stepC c
def inB (c : List Int) (b : Int) : Prop := ∀ x ∈ c, -b ≤ x ∧ x ≤ b
theorem inB_st {c : List Int} {b : Int} (h : inB c b) (hb : b ≤ 1000000000) : stOK c = true := List.all_eq_true.2 fun x hx => by
  have := h x hx
  simp only [Bool.and_eq_true, decide_eq_true_eq]
  omega
theorem inB_step {c : List Int} {b : Int} (h : inB c b) (hb : 0 ≤ b) {m : Int × Int} (hm : mOK m = true) : inB (stepC c m) (b + 1000000) := fun x hx => by
  obtain ⟨m0, m1, m2, m3⟩ := (mOK_iff m).1 hm
  unfold stepC at hx
  rcases List.mem_or_eq_of_mem_set hx with hx | rfl
  · have := h x hx; omega
  · cases hg : c[m.1.toNat]? with
    | none => simp only [Option.getD_none]; omega
    | some y =>
      have := h y (List.mem_of_getElem? hg)
      simp only [Option.getD_some]
      omega
structure After (j0 j : Jr) (l : List (Int × Int)) : Prop where
  ok : j.ok
  next : j.l.next = j0.l.next + l.length
  cap : j.l.dev.cap = j0.l.dev.cap
  len : (j.l.dev.all.length : Int) = j0.l.dev.all.length + 21 * l.length
  c : j.c = goC j0.c l
structure Live (j0 j : Jr) (st : List (List Int)) (safe : Int) (used : Nat) : Prop where
  ok : j.ok
  ne : 0 < st.length
  cnt : st.length ≤ used + 1
  next : j.l.next = j0.l.next + ((st.length : Int) - 1)
  cap : j.l.dev.cap = j0.l.dev.cap
  len : (j.l.dev.all.length : Int) ≤ j0.l.dev.all.length + 21 * ((st.length : Int) - 1)
  cells : inB j.c (1000000000 - 1000000 * 21 + 1000000 * ((st.length : Int) - 1))
  st8 : ∀ c ∈ st, c.length = 8
  at' : ∀ (i : Nat) (h : i < st.length), (baseV j.s).1 ≤ j0.l.next + i → st[i] = j.at (j0.l.next + i)
  sure : 0 ≤ safe → j0.l.next + safe ≤ j.sure
  low : -1 ≤ safe
  high : safe ≤ (st.length : Int) - 1
  snext : j.s.next ≤ j0.s.next + used
  cap0 : 100 ≤ j.s.d0.cap
  cap1 : 100 ≤ j.s.d1.cap
structure CrashF (j0 j : Jr) (st : List (List Int)) (safe stage keep : Int) (r : Jr) (n : Int) : Prop where
  rec' : recoverJ (crashJ j stage keep).1 = (r, n, 0)
  ok : r.ok
  next : r.l.next = n
  high : n ≤ j0.l.next + ((st.length : Int) - 1)
  low : n < j0.l.next → safe < 0
  safe : j0.l.next ≤ n → j0.l.next + safe ≤ n
  cells : ∀ i : Nat, (i : Int) = n - j0.l.next → st[i]? = some r.c
  stage : 0 < stage → n = j0.l.next + ((st.length : Int) - 1)
end Go.Proofs.Ytlfpafdkegnkoaa.Pm
