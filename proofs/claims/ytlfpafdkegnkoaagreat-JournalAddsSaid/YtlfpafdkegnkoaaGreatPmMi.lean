/- Texts of this proof in one file: PmSe, PmSf, PmSq. No law of Go's is stated here. -/
import Derived.Test.YtlfpafdkegnkoaaGreatPmMh
import Derived.Test.YtlfpafdkegnkoaaGreatPmMf
set_option linter.all false
set_option maxRecDepth 100000
set_option maxHeartbeats 2000000
namespace Go.Proofs.YtlfpafdkegnkoaaGreat.Pm
open Go Go.RowKit
def newS (n : Int) : Slt × Int := if (newD n).2 = 0 then (⟨(newD n).1, (newD n).1, 1⟩, 0) else (zeroS, (newD n).2)
theorem s_slots_New (n : Int) : Spec Tryz.prog 36 [.i .i64 n] [] (resV ((opS (newS n)).map AV.ofT)) := by
  refine spec_k (hold mixed) b_slots_New (opS (newS n)) ?_
  have hN := s_disk_New n
  by_cases h : (newD n).2 = 0
  · have ev : newS n = (⟨(newD n).1, (newD n).1, 1⟩, 0) := if_pos h
    rw [ev]
    generalize newD n = p at *
    simp -implicitDefEqProofs only [go_sem, seval, sk]
    refine call_k hN ?_
    simp -implicitDefEqProofs only [go_sem, seval, sk, opR, h, opS]
  · have ev : newS n = (zeroS, (newD n).2) := if_neg h
    have h' : ((newD n).2 != 0) = true := by simp [h]
    rw [ev]
    generalize newD n = p at *
    simp -implicitDefEqProofs only [go_sem, seval, sk]
    refine call_k hN ?_
    simp -implicitDefEqProofs only [go_sem, seval, sk, opR, h', opS, zeroS_cells]
    try rfl
def cpT (o : Option Rec) : List (T × Bool) := [(.agg (o.getD ⟨0, []⟩).cells, true), (.b o.isSome, true)]
theorem s_ref05_checkpoint (d : Dev) (hd : d.small) (i : Int) : Spec Tryz.prog 108 [.agg d.cells, .i .i64 i] [] (resV ((cpT (d.cp i)).map AV.ofT)) := by
  refine spec_k (hold mixed) b_ref05_checkpoint (cpT (d.cp i)) ?_
  have hl2 : d.all.length ≤ 200000 := by have := hd.1; have := hd.2; simp [Dev.all]; omega
  have hW := s_ref01_Whole d hd
  rw [show d.syn ++ d.tail = d.all from rfl] at hW
  have z0 : ((([] : List Rec).length : Nat) : Int) = 0 := rfl
  simp -implicitDefEqProofs only [go_sem, seval]
  refine call_k hW ?_
  simp -implicitDefEqProofs only [go_sem, seval]
  refine call_k (s_ref03_Found d.all (by omega)) ?_
  cases e0 : scanL d.all with
  | nil =>
    have c0 := cp_none0 (i := i) e0
    rw [c0]
    simp -implicitDefEqProofs only [go_sem, seval, sk, recsT_length, z0, cpT, Option.getD, Option.isSome, Rec.cells]
    try simp -implicitDefEqProofs only [go_sem, seval, sk, bT, List.map]
  | cons r rs =>
    have z1 : ((((rs.length + 1 : Nat)) : Int) == 0) = false := by simp only [beq_eq_false_iff_ne, ne_eq]; omega
    have z2 : (recsT (r :: rs))[0]? = some r.cells := rfl
    by_cases q0 : r.num.tmod 2 = i
    · have c0 := cp_some e0 q0
      have q0' : (i != i) = false := by simp
      rw [c0]
      simp -implicitDefEqProofs only [go_sem, seval, sk, recsT_length, z1, z2, Rec.cells, q0, q0', cpT, Option.getD, Option.isSome]
    · have c0 := cp_none e0 q0
      have q0' : (r.num.tmod 2 != i) = true := by simp [q0]
      rw [c0]
      simp -implicitDefEqProofs only [go_sem, seval, sk, recsT_length, z1, z2, Rec.cells, q0', cpT, Option.getD, Option.isSome]
      try simp -implicitDefEqProofs only [go_sem, seval, sk, bT, List.map]
theorem s_ref05_Newest (s : Slt) (h0 : s.d0.small) (h1 : s.d1.small) : Spec Tryz.prog 63 [.agg s.cells] [] (resV ((cpT (newO s)).map AV.ofT)) := by
  refine spec_k (hold mixed) b_ref05_Newest (cpT (newO s)) ?_
  have h2 := s_ref05_checkpoint s.d0 h0 0
  have h3 := s_ref05_checkpoint s.d1 h1 1
  cases e0 : s.d0.cp 0 with
  | none =>
    have ev : newO s = s.d1.cp 1 := by simp only [newO, e0]
    rw [e0] at h2
    rw [ev]
    generalize s.d1.cp 1 = o at *
    simp -implicitDefEqProofs only [go_sem, seval, sk]
    refine call_k h2 ?_ (hl := by simp -implicitDefEqProofs only [go_sem, seval, cpT])
    simp -implicitDefEqProofs only [go_sem, seval, sk, cpT, Option.getD, Option.isSome, Rec.cells]
    refine call_k h3 ?_ (hl := by simp -implicitDefEqProofs only [go_sem, seval, cpT])
    cases o <;> simp -implicitDefEqProofs only [go_sem, seval, sk, cpT, Option.getD, Option.isSome, Rec.cells]
  | some a =>
    cases e1 : s.d1.cp 1 with
    | none =>
      have ev : newO s = some a := by simp only [newO, e0, e1]
      rw [e0] at h2
      rw [e1] at h3
      rw [ev]
      simp -implicitDefEqProofs only [go_sem, seval, sk]
      refine call_k h2 ?_ (hl := by simp -implicitDefEqProofs only [go_sem, seval, cpT])
      simp -implicitDefEqProofs only [go_sem, seval, sk, cpT, Option.getD, Option.isSome, Rec.cells]
      refine call_k h3 ?_ (hl := by simp -implicitDefEqProofs only [go_sem, seval, cpT])
      simp -implicitDefEqProofs only [go_sem, seval, sk, cpT, Option.getD, Option.isSome, Rec.cells]
    | some b =>
      by_cases q : a.num < b.num
      · have ev : newO s = some b := by simp only [newO, e0, e1, if_pos q]
        rw [e0] at h2
        rw [e1] at h3
        rw [ev]
        simp -implicitDefEqProofs only [go_sem, seval, sk]
        refine call_k h2 ?_ (hl := by simp -implicitDefEqProofs only [go_sem, seval, cpT])
        simp -implicitDefEqProofs only [go_sem, seval, sk, cpT, Option.getD, Option.isSome, Rec.cells]
        refine call_k h3 ?_ (hl := by simp -implicitDefEqProofs only [go_sem, seval, cpT])
        simp -implicitDefEqProofs only [go_sem, seval, sk, cpT, Option.getD, Option.isSome, Rec.cells, q]
      · have ev : newO s = some a := by simp only [newO, e0, e1, if_neg q]
        rw [e0] at h2
        rw [e1] at h3
        rw [ev]
        simp -implicitDefEqProofs only [go_sem, seval, sk]
        refine call_k h2 ?_ (hl := by simp -implicitDefEqProofs only [go_sem, seval, cpT])
        simp -implicitDefEqProofs only [go_sem, seval, sk, cpT, Option.getD, Option.isSome, Rec.cells]
        refine call_k h3 ?_ (hl := by simp -implicitDefEqProofs only [go_sem, seval, cpT])
        simp -implicitDefEqProofs only [go_sem, seval, sk, cpT, Option.getD, Option.isSome, Rec.cells, q]
def greatD (d : Dev) : Bool := decide (3000 < d.syn.length) || decide (3000 < d.tail.length)
theorem greatD_small {d : Dev} (h : greatD d = false) : d.small := by simp [greatD] at h; exact ⟨by omega, by omega⟩
theorem s_ref05_Great (s : Slt) : Spec Tryz.prog 32 [.agg s.cells] [] (.t (.b (greatD s.d0 || greatD s.d1)) true) := by
  refine spec_k (hold mixed) b_ref05_Great [(.b (greatD s.d0 || greatD s.d1), true)] ?_
  have h0 := s_ref01_Great s.d0
  have h1 := s_ref01_Great s.d1
  rw [show (decide (3000 < s.d0.syn.length) || decide (3000 < s.d0.tail.length)) = greatD s.d0 from rfl] at h0
  rw [show (decide (3000 < s.d1.syn.length) || decide (3000 < s.d1.tail.length)) = greatD s.d1 from rfl] at h1
  by_cases c0 : greatD s.d0 = true
  · rw [c0] at h0 ⊢
    simp -implicitDefEqProofs only [go_sem, seval, sk]
    refine call_k h0 ?_
    simp -implicitDefEqProofs only [go_sem, seval, sk, Bool.true_or]
  · have c0 : greatD s.d0 = false := by simpa using c0
    rw [c0] at h0 ⊢
    simp -implicitDefEqProofs only [go_sem, seval, sk]
    refine call_k h0 ?_
    simp -implicitDefEqProofs only [go_sem, seval, sk]
    refine call_k h1 ?_
    simp -implicitDefEqProofs only [go_sem, seval, sk, Bool.false_or]
theorem nextO_bounds (s : Slt) : 1 ≤ nextO s ∧ nextO s ≤ 1000000001 := by
  unfold nextO
  cases ho : newO s with
  | none => exact ⟨by show (1 : Int) ≤ 1; omega, by show (1 : Int) ≤ 1000000001; omega⟩
  | some r =>
    have := newO_ok ho
    exact ⟨by show 1 ≤ r.num + 1; omega, by show r.num + 1 ≤ _; omega⟩
theorem openS_fine {s : Slt} (hs : s.fine) : (openS s).1.fine := by
  unfold openS
  split
  · rename_i h
    have := nextO_bounds ⟨openD s.d0, openD s.d1, 0⟩
    exact ⟨openD_small hs.1 h.1, openD_small hs.2.1 h.2, by show -9223372036854775808 ≤ nextO _; omega, by show nextO _ ≤ _; omega⟩
  · exact ⟨zeroD_small, zeroD_small, by show (-9223372036854775808 : Int) ≤ 0; omega, by show (0 : Int) ≤ 9223372036854775807; omega⟩
structure Slt.has (s : Slt) (n : Int) (b : List (BitVec 8)) : Prop where
  fine : s.fine
  open0 : (openS s).2 = 0
  load : loadS (openS s).1 = (n, b, 0)
  next : (openS s).1.next = n + 1
  lo : 0 ≤ n
  hi : n ≤ 1000000000
instance (d : Dev) : Decidable d.small := by unfold Dev.small; infer_instance
instance (s : Slt) : Decidable s.fine := by unfold Slt.fine; infer_instance
theorem openD_calm {d : Dev} (h : d.check = 0) : (openD d).calm := ⟨openD_check h, rfl, rfl⟩
theorem openS_ok {s : Slt} (h0 : s.d0.check = 0) (h1 : s.d1.check = 0) : (openS s).1.ok := by
  have e : openS s = (⟨openD s.d0, openD s.d1, nextO ⟨openD s.d0, openD s.d1, 0⟩⟩, 0) := if_pos ⟨h0, h1⟩
  rw [e]
  have := nextO_bounds ⟨openD s.d0, openD s.d1, 0⟩
  exact ⟨openD_calm h0, openD_calm h1, this.1, this.2⟩
structure Slt.neat (s : Slt) : Prop where
  ok : s.ok
  next : s.next = nextO s
theorem load_of {s : Slt} (h : s.ok) : loadS s = match newO s with
  | some r => (r.num, r.data, 0)
  | none => (0, [], 6) := if_pos h
theorem halfS_small' (s : Slt) (b : List (BitVec 8)) (n k : Int) : (halfS s b n k).1.d0.small ∧ (halfS s b n k).1.d1.small := by
  unfold halfS
  split
  · split
    · split
      · split
        · exact ⟨crash_small _ _, crash_small _ _⟩
        · exact ⟨zeroD_small, zeroD_small⟩
      · split
        · exact ⟨crash_small _ _, crash_small _ _⟩
        · exact ⟨zeroD_small, zeroD_small⟩
    · exact ⟨zeroD_small, zeroD_small⟩
  · exact ⟨zeroD_small, zeroD_small⟩
theorem halfS_next (s : Slt) (b : List (BitVec 8)) (n k : Int) : (halfS s b n k).1.next = s.next ∨ (halfS s b n k).1.next = 0 := by
  unfold halfS
  split
  · split
    · split
      · split
        · exact .inl rfl
        · exact .inr rfl
      · split
        · exact .inl rfl
        · exact .inr rfl
    · exact .inr rfl
  · exact .inr rfl
theorem ok_fine {s : Slt} (h : s.ok) : s.fine := by
  have h0 := s.d0.ok_of h.1.1
  have h1 := s.d1.ok_of h.2.1.1
  obtain ⟨_, _, n0, n1⟩ := h
  exact ⟨⟨by omega, by omega⟩, ⟨by omega, by omega⟩, by omega, by omega⟩
end Go.Proofs.YtlfpafdkegnkoaaGreat.Pm
