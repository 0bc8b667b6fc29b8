/- Texts of this proof in one file: PmSe, PmSf, PmSq. No law of Go's is stated here. -/
import Derived.Test.YtlfpafdkegnkoaaGreatPmMh
import Derived.Test.YtlfpafdkegnkoaaGreatPmMf
/-! PmSe -/
set_option linter.all false
set_option maxRecDepth 100000
set_option maxHeartbeats 2000000
namespace Go.Proofs.YtlfpafdkegnkoaaGreat.Pm
open Go Go.RowKit

def newS (n : Int) : Slt × Int := if (newD n).2 = 0 then (⟨(newD n).1, (newD n).1, 1⟩, 0) else (zeroS, (newD n).2)
theorem s_slots_New (n : Int) : Spec Tryz.prog 36 [.i .i64 n] [] (resV ((opS (newS n)).map AV.ofT)) := by
  refine spec_k (hold mixed) b_slots_New (opS (newS n)) ?_
  have hN := s_disk_New n
  by_cases h : (newD n).2 = 0
  · have ev : newS n = (⟨(newD n).1, (newD n).1, 1⟩, 0) := if_pos h
    rw [ev]
    generalize newD n = p at *
    simp -implicitDefEqProofs only [go_sem, seval, sk]
    refine call_k hN ?_
    simp -implicitDefEqProofs only [go_sem, seval, sk, opR, h, opS]
  · have ev : newS n = (zeroS, (newD n).2) := if_neg h
    have h' : ((newD n).2 != 0) = true := by simp [h]
    rw [ev]
    generalize newD n = p at *
    simp -implicitDefEqProofs only [go_sem, seval, sk]
    refine call_k hN ?_
    simp -implicitDefEqProofs only [go_sem, seval, sk, opR, h', opS, zeroS_cells]
    try rfl
theorem s_ref05_New (n : Int) : Spec Tryz.prog 39 [.i .i64 n] [] (resV ((opS (newS n)).map AV.ofT)) := by
  refine spec_k (hold mixed) b_ref05_New (opS (newS n)) ?_
  have hN := s_ref01_New n
  by_cases h : (newD n).2 = 0
  · have ev : newS n = (⟨(newD n).1, (newD n).1, 1⟩, 0) := if_pos h
    rw [ev]
    generalize newD n = p at *
    simp -implicitDefEqProofs only [go_sem, seval, sk]
    refine call_k hN ?_
    simp -implicitDefEqProofs only [go_sem, seval, sk, opR, h, opS]
  · have ev : newS n = (zeroS, (newD n).2) := if_neg h
    have h' : ((newD n).2 != 0) = true := by simp [h]
    rw [ev]
    generalize newD n = p at *
    simp -implicitDefEqProofs only [go_sem, seval, sk]
    refine call_k hN ?_
    simp -implicitDefEqProofs only [go_sem, seval, sk, opR, h', opS, zeroS_cells]
    try rfl
def cpT (o : Option Rec) : List (T × Bool) := [(.agg (o.getD ⟨0, []⟩).cells, true), (.b o.isSome, true)]
theorem s_ref05_checkpoint (d : Dev) (hd : d.small) (i : Int) : Spec Tryz.prog 108 [.agg d.cells, .i .i64 i] [] (resV ((cpT (d.cp i)).map AV.ofT)) := by
  refine spec_k (hold mixed) b_ref05_checkpoint (cpT (d.cp i)) ?_
  have hl2 : d.all.length ≤ 200000 := by have := hd.1; have := hd.2; simp [Dev.all]; omega
  have hW := s_ref01_Whole d hd
  rw [show d.syn ++ d.tail = d.all from rfl] at hW
  have z0 : ((([] : List Rec).length : Nat) : Int) = 0 := rfl
  simp -implicitDefEqProofs only [go_sem, seval]
  refine call_k hW ?_
  simp -implicitDefEqProofs only [go_sem, seval]
  refine call_k (s_ref03_Found d.all (by omega)) ?_
  cases e0 : scanL d.all with
  | nil =>
    have c0 := cp_none0 (i := i) e0
    rw [c0]
    simp -implicitDefEqProofs only [go_sem, seval, sk, recsT_length, z0, cpT, Option.getD, Option.isSome, Rec.cells]
    try simp -implicitDefEqProofs only [go_sem, seval, sk, bT, List.map]
  | cons r rs =>
    have z1 : ((((rs.length + 1 : Nat)) : Int) == 0) = false := by simp only [beq_eq_false_iff_ne, ne_eq]; omega
    have z2 : (recsT (r :: rs))[0]? = some r.cells := rfl
    by_cases q0 : r.num.tmod 2 = i
    · have c0 := cp_some e0 q0
      have q0' : (i != i) = false := by simp
      rw [c0]
      simp -implicitDefEqProofs only [go_sem, seval, sk, recsT_length, z1, z2, Rec.cells, q0, q0', cpT, Option.getD, Option.isSome]
    · have c0 := cp_none e0 q0
      have q0' : (r.num.tmod 2 != i) = true := by simp [q0]
      rw [c0]
      simp -implicitDefEqProofs only [go_sem, seval, sk, recsT_length, z1, z2, Rec.cells, q0', cpT, Option.getD, Option.isSome]
      try simp -implicitDefEqProofs only [go_sem, seval, sk, bT, List.map]
theorem s_ref05_Newest (s : Slt) (h0 : s.d0.small) (h1 : s.d1.small) : Spec Tryz.prog 63 [.agg s.cells] [] (resV ((cpT (newO s)).map AV.ofT)) := by
  refine spec_k (hold mixed) b_ref05_Newest (cpT (newO s)) ?_
  have h2 := s_ref05_checkpoint s.d0 h0 0
  have h3 := s_ref05_checkpoint s.d1 h1 1
  cases e0 : s.d0.cp 0 with
  | none =>
    have ev : newO s = s.d1.cp 1 := by simp only [newO, e0]
    rw [e0] at h2
    rw [ev]
    generalize s.d1.cp 1 = o at *
    simp -implicitDefEqProofs only [go_sem, seval, sk]
    refine call_k h2 ?_ (hl := by simp -implicitDefEqProofs only [go_sem, seval, cpT])
    simp -implicitDefEqProofs only [go_sem, seval, sk, cpT, Option.getD, Option.isSome, Rec.cells]
    refine call_k h3 ?_ (hl := by simp -implicitDefEqProofs only [go_sem, seval, cpT])
    cases o <;> simp -implicitDefEqProofs only [go_sem, seval, sk, cpT, Option.getD, Option.isSome, Rec.cells]
  | some a =>
    cases e1 : s.d1.cp 1 with
    | none =>
      have ev : newO s = some a := by simp only [newO, e0, e1]
      rw [e0] at h2
      rw [e1] at h3
      rw [ev]
      simp -implicitDefEqProofs only [go_sem, seval, sk]
      refine call_k h2 ?_ (hl := by simp -implicitDefEqProofs only [go_sem, seval, cpT])
      simp -implicitDefEqProofs only [go_sem, seval, sk, cpT, Option.getD, Option.isSome, Rec.cells]
      refine call_k h3 ?_ (hl := by simp -implicitDefEqProofs only [go_sem, seval, cpT])
      simp -implicitDefEqProofs only [go_sem, seval, sk, cpT, Option.getD, Option.isSome, Rec.cells]
    | some b =>
      by_cases q : a.num < b.num
      · have ev : newO s = some b := by simp only [newO, e0, e1, if_pos q]
        rw [e0] at h2
        rw [e1] at h3
        rw [ev]
        simp -implicitDefEqProofs only [go_sem, seval, sk]
        refine call_k h2 ?_ (hl := by simp -implicitDefEqProofs only [go_sem, seval, cpT])
        simp -implicitDefEqProofs only [go_sem, seval, sk, cpT, Option.getD, Option.isSome, Rec.cells]
        refine call_k h3 ?_ (hl := by simp -implicitDefEqProofs only [go_sem, seval, cpT])
        simp -implicitDefEqProofs only [go_sem, seval, sk, cpT, Option.getD, Option.isSome, Rec.cells, q]
      · have ev : newO s = some a := by simp only [newO, e0, e1, if_neg q]
        rw [e0] at h2
        rw [e1] at h3
        rw [ev]
        simp -implicitDefEqProofs only [go_sem, seval, sk]
        refine call_k h2 ?_ (hl := by simp -implicitDefEqProofs only [go_sem, seval, cpT])
        simp -implicitDefEqProofs only [go_sem, seval, sk, cpT, Option.getD, Option.isSome, Rec.cells]
        refine call_k h3 ?_ (hl := by simp -implicitDefEqProofs only [go_sem, seval, cpT])
        simp -implicitDefEqProofs only [go_sem, seval, sk, cpT, Option.getD, Option.isSome, Rec.cells, q]
theorem s_ref05_asked (s : Slt) (hs : s.fine) (b : List (BitVec 8)) (hb : b.length ≤ 1000000) : Spec Tryz.prog 100 [.agg s.cells, .sl (bT b)] [] (.t (.i .i64 (s.ask b)) true) := by
  refine spec_k (hold mixed) b_ref05_asked [(.i .i64 (s.ask b), true)] ?_
  have hC := s_ref05_Check s hs
  by_cases h : s.ok
  rotate_left
  · have ev : s.ask b = 8 := by simp only [Slt.ask, if_neg h]
    rw [chkS_bad h] at hC
    rw [ev]
    simp -implicitDefEqProofs only [go_sem, seval, sk]
    refine call_k hC ?_
    simp -implicitDefEqProofs only [go_sem, seval, sk]
    refine call_k hC ?_
    simp -implicitDefEqProofs only [go_sem, seval, sk]
  rw [chkS_ok h] at hC
  by_cases c0 : (1000 : Int) < b.length
  · have ev : s.ask b = 4 := by
      have : ¬ b.length ≤ 1000 := by omega
      simp only [Slt.ask, if_pos h, if_neg this]
    rw [ev]
    simp -implicitDefEqProofs only [go_sem, seval, sk]
    refine call_k hC ?_
    simp -implicitDefEqProofs only [go_sem, seval, sk, c0]
  have c0' : b.length ≤ 1000 := by omega
  by_cases c1 : 1000000000 < s.next
  · have ev : s.ask b = 2 := by
      have : ¬ s.next ≤ 1000000000 := by omega
      simp only [Slt.ask, if_pos h, if_pos c0', if_neg this]
    rw [ev]
    simp -implicitDefEqProofs only [go_sem, seval, sk]
    refine call_k hC ?_
    simp -implicitDefEqProofs only [go_sem, seval, sk, c0, c1]
  have c1' : s.next ≤ 1000000000 := by omega
  have hn1 := h.2.2.1
  have hE := s_ref03_Bytes ⟨s.next, b⟩ (by show 0 ≤ s.next; omega) c1' c0'
  have hbl : (bytesL ⟨s.next, b⟩).length = 12 + b.length := bytesL_length _
  rw [hbl] at hE
  rcases par2 hn1 with hp | hp
  · have hdv : s.dev = s.d0 := if_pos hp
    by_cases c2 : s.d0.cap < 12 + (b.length : Int)
    · have ev : s.ask b = 18 := by
        have : ¬ (12 + (b.length : Int)) ≤ s.dev.cap := by rw [hdv]; omega
        simp only [Slt.ask, if_pos h, if_pos c0', if_pos c1', if_neg this]
      have c3 : (s.d0.cap < (((12 + b.length : Nat)) : Int)) = True := eq_true (by omega)
      rw [ev]
      simp -implicitDefEqProofs only [go_sem, seval, sk]
      refine call_k hC ?_
      simp -implicitDefEqProofs only [go_sem, seval, sk, c0, c1]
      refine call_d hE ?_ (by simp -implicitDefEqProofs only [go_sem, seval, Rec.cells])
      simp -implicitDefEqProofs only [go_sem, seval, sk, hp, c3]
    · have ev : s.ask b = 0 := ask_of h c0' c1' (by rw [hdv]; omega)
      have c3 : (s.d0.cap < (((12 + b.length : Nat)) : Int)) = False := eq_false (by omega)
      rw [ev]
      simp -implicitDefEqProofs only [go_sem, seval, sk]
      refine call_k hC ?_
      simp -implicitDefEqProofs only [go_sem, seval, sk, c0, c1]
      refine call_d hE ?_ (by simp -implicitDefEqProofs only [go_sem, seval, Rec.cells])
      simp -implicitDefEqProofs only [go_sem, seval, sk, hp, c3]
  · have hdv : s.dev = s.d1 := if_neg (by omega)
    by_cases c2 : s.d1.cap < 12 + (b.length : Int)
    · have ev : s.ask b = 18 := by
        have : ¬ (12 + (b.length : Int)) ≤ s.dev.cap := by rw [hdv]; omega
        simp only [Slt.ask, if_pos h, if_pos c0', if_pos c1', if_neg this]
      have c3 : (s.d1.cap < (((12 + b.length : Nat)) : Int)) = True := eq_true (by omega)
      rw [ev]
      simp -implicitDefEqProofs only [go_sem, seval, sk]
      refine call_k hC ?_
      simp -implicitDefEqProofs only [go_sem, seval, sk, c0, c1]
      refine call_d hE ?_ (by simp -implicitDefEqProofs only [go_sem, seval, Rec.cells])
      simp -implicitDefEqProofs only [go_sem, seval, sk, hp, c3]
    · have ev : s.ask b = 0 := ask_of h c0' c1' (by rw [hdv]; omega)
      have c3 : (s.d1.cap < (((12 + b.length : Nat)) : Int)) = False := eq_false (by omega)
      rw [ev]
      simp -implicitDefEqProofs only [go_sem, seval, sk]
      refine call_k hC ?_
      simp -implicitDefEqProofs only [go_sem, seval, sk, c0, c1]
      refine call_d hE ?_ (by simp -implicitDefEqProofs only [go_sem, seval, Rec.cells])
      simp -implicitDefEqProofs only [go_sem, seval, sk, hp, c3]
theorem s_ref05_Twin (s : Slt) (h0 : s.d0.small) (h1 : s.d1.small) : Spec Tryz.prog 34 [.agg s.cells] [.row 0 1 (bT s.d0.syn) true, .row 0 1 (bT s.d0.tail) true, .row 0 1 (bT s.d1.syn) true, .row 0 1 (bT s.d1.tail) true]
    (.agg [.row 0 0 0 s.d0.syn.length, .row 1 0 0 s.d0.tail.length, .t (.i .i64 s.d0.cap) true, .t (.b s.d0.down) true, .row 2 0 0 s.d1.syn.length, .row 3 0 0 s.d1.tail.length, .t (.i .i64 s.d1.cap) true, .t (.b s.d1.down) true, .t (.i .i64 s.next) true]) := by
  refine spec_ko (hold mixed) b_ref05_Twin [.row 0 1 (bT s.d0.syn) true, .row 0 1 (bT s.d0.tail) true, .row 0 1 (bT s.d1.syn) true, .row 0 1 (bT s.d1.tail) true]
    [.agg [.row 0 0 0 s.d0.syn.length, .row 1 0 0 s.d0.tail.length, .t (.i .i64 s.d0.cap) true, .t (.b s.d0.down) true, .row 2 0 0 s.d1.syn.length, .row 3 0 0 s.d1.tail.length, .t (.i .i64 s.d1.cap) true, .t (.b s.d1.down) true, .t (.i .i64 s.next) true]] ?_
  simp -implicitDefEqProofs only [go_sem, seval, sk]
  refine call_d (s_ref01_Twin s.d0 h0) ?_
  simp -implicitDefEqProofs only [go_sem, seval, sk]
  refine call_d (s_ref01_Twin s.d1 h1) ?_
  simp -implicitDefEqProofs only [go_sem, seval]
  refine ends_mk [2, 3, 4, 5] ?_ ?_
  · simp -implicitDefEqProofs only [go_sem, seval, bT_take_self]
  · simp -implicitDefEqProofs only [go_sem, seval]
theorem s_rstep_0_0 (s : Slt) (hs : s.fine) (h : s.ok) (hp : s.next.tmod 2 = 0) (b : List (BitVec 8)) (c0 : b.length ≤ 1000) (c1 : s.next ≤ 1000000000) : Spec Tryz.prog 101 [.agg s.cells, .sl (bT b), .i .i64 0] [] (.t (.agg (s.step (bytesL ⟨s.next, b⟩) 0).cells) true) := by
  refine spec_k (hold mixed) b_ref05_Stepped [(.agg (s.step (bytesL ⟨s.next, b⟩) 0).cells, true)] ?_
  have ev : s.step (bytesL ⟨s.next, b⟩) 0 = ⟨stepD s.d0 (bytesL ⟨s.next, b⟩) 0, s.d1, s.next⟩ := if_pos hp
  have hn1 := h.2.2.1
  have hE := s_ref03_Bytes ⟨s.next, b⟩ (by show 0 ≤ s.next; omega) c1 c0
  have hbl : (bytesL ⟨s.next, b⟩).length ≤ 100000 := by rw [bytesL_length]; show 12 + b.length ≤ _; omega
  have hd := hs.1
  rw [ev]
  simp -implicitDefEqProofs only [go_sem, seval, sk, hp]
  refine call_k (s_ref01_Twin s.d0 hd) ?_
  simp -implicitDefEqProofs only [go_sem, seval, sk]
  refine call_k (s_ref05_Twin s hs.1 hs.2.1) ?_
  simp -implicitDefEqProofs only [go_sem, seval, sk, hp, bT_take_self]
  rfl
theorem s_rstep_0_1 (s : Slt) (hs : s.fine) (h : s.ok) (hp : s.next.tmod 2 = 0) (b : List (BitVec 8)) (c0 : b.length ≤ 1000) (c1 : s.next ≤ 1000000000) : Spec Tryz.prog 101 [.agg s.cells, .sl (bT b), .i .i64 1] [] (.t (.agg (s.step (bytesL ⟨s.next, b⟩) 1).cells) true) := by
  refine spec_k (hold mixed) b_ref05_Stepped [(.agg (s.step (bytesL ⟨s.next, b⟩) 1).cells, true)] ?_
  have ev : s.step (bytesL ⟨s.next, b⟩) 1 = ⟨stepD s.d0 (bytesL ⟨s.next, b⟩) 1, s.d1, s.next⟩ := if_pos hp
  have hn1 := h.2.2.1
  have hE := s_ref03_Bytes ⟨s.next, b⟩ (by show 0 ≤ s.next; omega) c1 c0
  have hbl : (bytesL ⟨s.next, b⟩).length ≤ 100000 := by rw [bytesL_length]; show 12 + b.length ≤ _; omega
  have hd := hs.1
  rw [ev]
  simp -implicitDefEqProofs only [go_sem, seval, sk, hp]
  refine call_k (s_ref01_Twin s.d0 hd) ?_
  simp -implicitDefEqProofs only [go_sem, seval, sk]
  refine call_k (s_ref01_Truncate s.d0 0 hd (by omega) (by omega)) ?_
  simp -implicitDefEqProofs only [go_sem, seval, sk, opR]
  refine call_k (s_ref05_Twin s hs.1 hs.2.1) ?_
  simp -implicitDefEqProofs only [go_sem, seval, sk, hp, bT_take_self]
  rfl
theorem s_rstep_0_2 (s : Slt) (hs : s.fine) (h : s.ok) (hp : s.next.tmod 2 = 0) (b : List (BitVec 8)) (c0 : b.length ≤ 1000) (c1 : s.next ≤ 1000000000) : Spec Tryz.prog 101 [.agg s.cells, .sl (bT b), .i .i64 2] [] (.t (.agg (s.step (bytesL ⟨s.next, b⟩) 2).cells) true) := by
  refine spec_k (hold mixed) b_ref05_Stepped [(.agg (s.step (bytesL ⟨s.next, b⟩) 2).cells, true)] ?_
  have ev : s.step (bytesL ⟨s.next, b⟩) 2 = ⟨stepD s.d0 (bytesL ⟨s.next, b⟩) 2, s.d1, s.next⟩ := if_pos hp
  have hn1 := h.2.2.1
  have hE := s_ref03_Bytes ⟨s.next, b⟩ (by show 0 ≤ s.next; omega) c1 c0
  have hbl : (bytesL ⟨s.next, b⟩).length ≤ 100000 := by rw [bytesL_length]; show 12 + b.length ≤ _; omega
  have hd := hs.1
  rw [ev]
  simp -implicitDefEqProofs only [go_sem, seval, sk, hp]
  refine call_k (s_ref01_Twin s.d0 hd) ?_
  simp -implicitDefEqProofs only [go_sem, seval, sk]
  refine call_k (s_ref01_Truncate s.d0 0 hd (by omega) (by omega)) ?_
  simp -implicitDefEqProofs only [go_sem, seval, sk, opR]
  refine call_d hE ?_ (by simp -implicitDefEqProofs only [go_sem, seval, Rec.cells])
  simp -implicitDefEqProofs only [go_sem, seval, sk]
  refine call_d (s_ref01_Append (s.d0.trunc 0).1 _ (trunc_small _ _) hbl) ?_
  simp -implicitDefEqProofs only [go_sem, seval, sk, opR]
  refine call_k (s_ref05_Twin s hs.1 hs.2.1) ?_
  simp -implicitDefEqProofs only [go_sem, seval, sk, hp, bT_take_self]
  rfl
theorem s_rstep_0_3 (s : Slt) (hs : s.fine) (h : s.ok) (hp : s.next.tmod 2 = 0) (b : List (BitVec 8)) (c0 : b.length ≤ 1000) (c1 : s.next ≤ 1000000000) : Spec Tryz.prog 101 [.agg s.cells, .sl (bT b), .i .i64 3] [] (.t (.agg (s.step (bytesL ⟨s.next, b⟩) 3).cells) true) := by
  refine spec_k (hold mixed) b_ref05_Stepped [(.agg (s.step (bytesL ⟨s.next, b⟩) 3).cells, true)] ?_
  have ev : s.step (bytesL ⟨s.next, b⟩) 3 = ⟨stepD s.d0 (bytesL ⟨s.next, b⟩) 3, s.d1, s.next⟩ := if_pos hp
  have hn1 := h.2.2.1
  have hE := s_ref03_Bytes ⟨s.next, b⟩ (by show 0 ≤ s.next; omega) c1 c0
  have hbl : (bytesL ⟨s.next, b⟩).length ≤ 100000 := by rw [bytesL_length]; show 12 + b.length ≤ _; omega
  have hd := hs.1
  rw [ev]
  simp -implicitDefEqProofs only [go_sem, seval, sk, hp]
  refine call_k (s_ref01_Twin s.d0 hd) ?_
  simp -implicitDefEqProofs only [go_sem, seval, sk]
  refine call_k (s_ref01_Truncate s.d0 0 hd (by omega) (by omega)) ?_
  simp -implicitDefEqProofs only [go_sem, seval, sk, opR]
  refine call_d hE ?_ (by simp -implicitDefEqProofs only [go_sem, seval, Rec.cells])
  simp -implicitDefEqProofs only [go_sem, seval, sk]
  refine call_d (s_ref01_Append (s.d0.trunc 0).1 _ (trunc_small _ _) hbl) ?_
  simp -implicitDefEqProofs only [go_sem, seval, sk, opR]
  refine call_k (s_ref01_Sync ((s.d0.trunc 0).1.app (bytesL ⟨s.next, b⟩)).1 (app_small _ _)) ?_
  simp -implicitDefEqProofs only [go_sem, seval, sk, opR]
  refine call_k (s_ref05_Twin s hs.1 hs.2.1) ?_
  simp -implicitDefEqProofs only [go_sem, seval, sk, hp, bT_take_self]
  rfl
theorem s_rstep_1_0 (s : Slt) (hs : s.fine) (h : s.ok) (hp : s.next.tmod 2 = 1) (b : List (BitVec 8)) (c0 : b.length ≤ 1000) (c1 : s.next ≤ 1000000000) : Spec Tryz.prog 101 [.agg s.cells, .sl (bT b), .i .i64 0] [] (.t (.agg (s.step (bytesL ⟨s.next, b⟩) 0).cells) true) := by
  refine spec_k (hold mixed) b_ref05_Stepped [(.agg (s.step (bytesL ⟨s.next, b⟩) 0).cells, true)] ?_
  have ev : s.step (bytesL ⟨s.next, b⟩) 0 = ⟨s.d0, stepD s.d1 (bytesL ⟨s.next, b⟩) 0, s.next⟩ := if_neg (by omega)
  have hn1 := h.2.2.1
  have hE := s_ref03_Bytes ⟨s.next, b⟩ (by show 0 ≤ s.next; omega) c1 c0
  have hbl : (bytesL ⟨s.next, b⟩).length ≤ 100000 := by rw [bytesL_length]; show 12 + b.length ≤ _; omega
  have hd := hs.2.1
  rw [ev]
  simp -implicitDefEqProofs only [go_sem, seval, sk, hp]
  refine call_k (s_ref01_Twin s.d1 hd) ?_
  simp -implicitDefEqProofs only [go_sem, seval, sk]
  refine call_k (s_ref05_Twin s hs.1 hs.2.1) ?_
  simp -implicitDefEqProofs only [go_sem, seval, sk, hp, bT_take_self]
  rfl
theorem s_rstep_1_1 (s : Slt) (hs : s.fine) (h : s.ok) (hp : s.next.tmod 2 = 1) (b : List (BitVec 8)) (c0 : b.length ≤ 1000) (c1 : s.next ≤ 1000000000) : Spec Tryz.prog 101 [.agg s.cells, .sl (bT b), .i .i64 1] [] (.t (.agg (s.step (bytesL ⟨s.next, b⟩) 1).cells) true) := by
  refine spec_k (hold mixed) b_ref05_Stepped [(.agg (s.step (bytesL ⟨s.next, b⟩) 1).cells, true)] ?_
  have ev : s.step (bytesL ⟨s.next, b⟩) 1 = ⟨s.d0, stepD s.d1 (bytesL ⟨s.next, b⟩) 1, s.next⟩ := if_neg (by omega)
  have hn1 := h.2.2.1
  have hE := s_ref03_Bytes ⟨s.next, b⟩ (by show 0 ≤ s.next; omega) c1 c0
  have hbl : (bytesL ⟨s.next, b⟩).length ≤ 100000 := by rw [bytesL_length]; show 12 + b.length ≤ _; omega
  have hd := hs.2.1
  rw [ev]
  simp -implicitDefEqProofs only [go_sem, seval, sk, hp]
  refine call_k (s_ref01_Twin s.d1 hd) ?_
  simp -implicitDefEqProofs only [go_sem, seval, sk]
  refine call_k (s_ref01_Truncate s.d1 0 hd (by omega) (by omega)) ?_
  simp -implicitDefEqProofs only [go_sem, seval, sk, opR]
  refine call_k (s_ref05_Twin s hs.1 hs.2.1) ?_
  simp -implicitDefEqProofs only [go_sem, seval, sk, hp, bT_take_self]
  rfl
theorem s_rstep_1_2 (s : Slt) (hs : s.fine) (h : s.ok) (hp : s.next.tmod 2 = 1) (b : List (BitVec 8)) (c0 : b.length ≤ 1000) (c1 : s.next ≤ 1000000000) : Spec Tryz.prog 101 [.agg s.cells, .sl (bT b), .i .i64 2] [] (.t (.agg (s.step (bytesL ⟨s.next, b⟩) 2).cells) true) := by
  refine spec_k (hold mixed) b_ref05_Stepped [(.agg (s.step (bytesL ⟨s.next, b⟩) 2).cells, true)] ?_
  have ev : s.step (bytesL ⟨s.next, b⟩) 2 = ⟨s.d0, stepD s.d1 (bytesL ⟨s.next, b⟩) 2, s.next⟩ := if_neg (by omega)
  have hn1 := h.2.2.1
  have hE := s_ref03_Bytes ⟨s.next, b⟩ (by show 0 ≤ s.next; omega) c1 c0
  have hbl : (bytesL ⟨s.next, b⟩).length ≤ 100000 := by rw [bytesL_length]; show 12 + b.length ≤ _; omega
  have hd := hs.2.1
  rw [ev]
  simp -implicitDefEqProofs only [go_sem, seval, sk, hp]
  refine call_k (s_ref01_Twin s.d1 hd) ?_
  simp -implicitDefEqProofs only [go_sem, seval, sk]
  refine call_k (s_ref01_Truncate s.d1 0 hd (by omega) (by omega)) ?_
  simp -implicitDefEqProofs only [go_sem, seval, sk, opR]
  refine call_d hE ?_ (by simp -implicitDefEqProofs only [go_sem, seval, Rec.cells])
  simp -implicitDefEqProofs only [go_sem, seval, sk]
  refine call_d (s_ref01_Append (s.d1.trunc 0).1 _ (trunc_small _ _) hbl) ?_
  simp -implicitDefEqProofs only [go_sem, seval, sk, opR]
  refine call_k (s_ref05_Twin s hs.1 hs.2.1) ?_
  simp -implicitDefEqProofs only [go_sem, seval, sk, hp, bT_take_self]
  rfl
theorem s_rstep_1_3 (s : Slt) (hs : s.fine) (h : s.ok) (hp : s.next.tmod 2 = 1) (b : List (BitVec 8)) (c0 : b.length ≤ 1000) (c1 : s.next ≤ 1000000000) : Spec Tryz.prog 101 [.agg s.cells, .sl (bT b), .i .i64 3] [] (.t (.agg (s.step (bytesL ⟨s.next, b⟩) 3).cells) true) := by
  refine spec_k (hold mixed) b_ref05_Stepped [(.agg (s.step (bytesL ⟨s.next, b⟩) 3).cells, true)] ?_
  have ev : s.step (bytesL ⟨s.next, b⟩) 3 = ⟨s.d0, stepD s.d1 (bytesL ⟨s.next, b⟩) 3, s.next⟩ := if_neg (by omega)
  have hn1 := h.2.2.1
  have hE := s_ref03_Bytes ⟨s.next, b⟩ (by show 0 ≤ s.next; omega) c1 c0
  have hbl : (bytesL ⟨s.next, b⟩).length ≤ 100000 := by rw [bytesL_length]; show 12 + b.length ≤ _; omega
  have hd := hs.2.1
  rw [ev]
  simp -implicitDefEqProofs only [go_sem, seval, sk, hp]
  refine call_k (s_ref01_Twin s.d1 hd) ?_
  simp -implicitDefEqProofs only [go_sem, seval, sk]
  refine call_k (s_ref01_Truncate s.d1 0 hd (by omega) (by omega)) ?_
  simp -implicitDefEqProofs only [go_sem, seval, sk, opR]
  refine call_d hE ?_ (by simp -implicitDefEqProofs only [go_sem, seval, Rec.cells])
  simp -implicitDefEqProofs only [go_sem, seval, sk]
  refine call_d (s_ref01_Append (s.d1.trunc 0).1 _ (trunc_small _ _) hbl) ?_
  simp -implicitDefEqProofs only [go_sem, seval, sk, opR]
  refine call_k (s_ref01_Sync ((s.d1.trunc 0).1.app (bytesL ⟨s.next, b⟩)).1 (app_small _ _)) ?_
  simp -implicitDefEqProofs only [go_sem, seval, sk, opR]
  refine call_k (s_ref05_Twin s hs.1 hs.2.1) ?_
  simp -implicitDefEqProofs only [go_sem, seval, sk, hp, bT_take_self]
  rfl
theorem s_ref05_Stepped (s : Slt) (hs : s.fine) (h : s.ok) (b : List (BitVec 8)) (c0 : b.length ≤ 1000) (c1 : s.next ≤ 1000000000) (n : Nat) (hn : n ≤ 3) : Spec Tryz.prog 101 [.agg s.cells, .sl (bT b), .i .i64 n] [] (.t (.agg (s.step (bytesL ⟨s.next, b⟩) n).cells) true) := by
  rcases par2 h.2.2.1 with hp | hp
  · match n, hn with
    | 0, _ => exact s_rstep_0_0 s hs h hp b c0 c1
    | 1, _ => exact s_rstep_0_1 s hs h hp b c0 c1
    | 2, _ => exact s_rstep_0_2 s hs h hp b c0 c1
    | 3, _ => exact s_rstep_0_3 s hs h hp b c0 c1
  · match n, hn with
    | 0, _ => exact s_rstep_1_0 s hs h hp b c0 c1
    | 1, _ => exact s_rstep_1_1 s hs h hp b c0 c1
    | 2, _ => exact s_rstep_1_2 s hs h hp b c0 c1
    | 3, _ => exact s_rstep_1_3 s hs h hp b c0 c1
end Go.Proofs.YtlfpafdkegnkoaaGreat.Pm

/-! PmSf -/
set_option linter.all false
set_option maxRecDepth 100000
set_option maxHeartbeats 2000000
namespace Go.Proofs.YtlfpafdkegnkoaaGreat.Pm
open Go Go.RowKit

theorem s_ref05_Save (s : Slt) (hs : s.fine) (b : List (BitVec 8)) (hb : b.length ≤ 1000000) : Spec Tryz.prog 54 [.agg s.cells, .sl (bT b)] [] (resV ((opS3 (saveS s b)).map AV.ofT)) := by
  refine spec_k (hold mixed) b_ref05_Save (opS3 (saveS s b)) ?_
  have hR := s_ref05_asked s hs b hb
  by_cases ha : s.ask b = 0
  · obtain ⟨hok, a1, a2, a3⟩ := ask_zero ha
    have ev : saveS s b = ((s.step (bytesL ⟨s.next, b⟩) 3).setN (s.next + 1), s.next, 0) := if_pos ha
    have hn1 := hok.2.2.1
    have w1 : IntKind.i64.wrap (s.next + 1) = s.next + 1 := wrap_i64_id (by omega) (by omega)
    have hS : Spec Tryz.prog 101 [.agg s.cells, .sl (bT b), .i .i64 3] [] (.t (.agg (s.step (bytesL ⟨s.next, b⟩) 3).cells) true) := s_ref05_Stepped s hs hok b a1 a2 3 (by omega)
    have hx := step_next s (bytesL ⟨s.next, b⟩) 3
    rw [ha] at hR
    rw [ev]
    simp -implicitDefEqProofs only [go_sem, seval, sk]
    refine call_k hR ?_
    simp -implicitDefEqProofs only [go_sem, seval, sk]
    refine call_k hS ?_
    generalize s.step (bytesL ⟨s.next, b⟩) 3 = t at *
    simp -implicitDefEqProofs only [go_sem, seval, sk, hx, w1, opS3, Slt.setN]
  · have ev : saveS s b = (zeroS, 0, s.ask b) := if_neg ha
    have ha' : (s.ask b != 0) = true := by simp [ha]
    rw [ev]
    simp -implicitDefEqProofs only [go_sem, seval, sk]
    refine call_k hR ?_
    simp -implicitDefEqProofs only [go_sem, seval, sk, ha', opS3, zeroS_cells]
    try rfl
def sameS (a b : Slt) : Bool := decide (a.next = b.next) && (sameD a.d0 b.d0 && sameD a.d1 b.d1)
theorem s_ref05_Same (a b : Slt) (h0 : a.d0.small) (h1 : a.d1.small) (g0 : b.d0.small) (g1 : b.d1.small) : Spec Tryz.prog 48 [.agg a.cells, .agg b.cells] [] (.t (.b (sameS a b)) true) := by
  refine spec_k (hold mixed) b_ref05_Same [(.b (sameS a b), true)] ?_
  by_cases c0 : a.next = b.next
  · have c0' : (b.next == b.next) = true := by simp
    simp -implicitDefEqProofs only [go_sem, seval, sk, c0, c0']
    refine call_k (s_ref01_Same a.d0 b.d0 h0 g0) ?_
    by_cases c1 : sameD a.d0 b.d0 = true
    · simp -implicitDefEqProofs only [go_sem, seval, sk, c1]
      refine call_k (s_ref01_Same a.d1 b.d1 h1 g1) ?_
      simp -implicitDefEqProofs only [go_sem, seval, sk, sameS, c0, c1]
    · have c1 : sameD a.d0 b.d0 = false := by simpa using c1
      simp -implicitDefEqProofs only [go_sem, seval, sk, c1, sameS]
  · have c0' : (a.next == b.next) = false := by simp [c0]
    simp -implicitDefEqProofs only [go_sem, seval, sk, c0', sameS, c0]
def greatD (d : Dev) : Bool := decide (3000 < d.syn.length) || decide (3000 < d.tail.length)
theorem greatD_small {d : Dev} (h : greatD d = false) : d.small := by simp [greatD] at h; exact ⟨by omega, by omega⟩
theorem s_ref05_Great (s : Slt) : Spec Tryz.prog 32 [.agg s.cells] [] (.t (.b (greatD s.d0 || greatD s.d1)) true) := by
  refine spec_k (hold mixed) b_ref05_Great [(.b (greatD s.d0 || greatD s.d1), true)] ?_
  have h0 := s_ref01_Great s.d0
  have h1 := s_ref01_Great s.d1
  rw [show (decide (3000 < s.d0.syn.length) || decide (3000 < s.d0.tail.length)) = greatD s.d0 from rfl] at h0
  rw [show (decide (3000 < s.d1.syn.length) || decide (3000 < s.d1.tail.length)) = greatD s.d1 from rfl] at h1
  by_cases c0 : greatD s.d0 = true
  · rw [c0] at h0 ⊢
    simp -implicitDefEqProofs only [go_sem, seval, sk]
    refine call_k h0 ?_
    simp -implicitDefEqProofs only [go_sem, seval, sk, Bool.true_or]
  · have c0 : greatD s.d0 = false := by simpa using c0
    rw [c0] at h0 ⊢
    simp -implicitDefEqProofs only [go_sem, seval, sk]
    refine call_k h0 ?_
    simp -implicitDefEqProofs only [go_sem, seval, sk]
    refine call_k h1 ?_
    simp -implicitDefEqProofs only [go_sem, seval, sk, Bool.false_or]
end Go.Proofs.YtlfpafdkegnkoaaGreat.Pm

/-! PmSq -/
set_option linter.all false
set_option maxRecDepth 100000
set_option maxHeartbeats 2000000
namespace Go.Proofs.YtlfpafdkegnkoaaGreat.Pm
open Go Go.RowKit

/-- Slots that open and load like this. -/
structure Slt.has (s : Slt) (n : Int) (b : List (BitVec 8)) : Prop where
  fine : s.fine
  open0 : (openS s).2 = 0
  load : loadS (openS s).1 = (n, b, 0)
  next : (openS s).1.next = n + 1
  lo : 0 ≤ n
  hi : n ≤ 1000000000
instance (d : Dev) : Decidable d.small := by unfold Dev.small; infer_instance
instance (s : Slt) : Decidable s.fine := by unfold Slt.fine; infer_instance
/-- Slots whose next number is the one behind the newest. -/
structure Slt.neat (s : Slt) : Prop where
  ok : s.ok
  next : s.next = nextO s
theorem load_of {s : Slt} (h : s.ok) : loadS s = match newO s with
  | some r => (r.num, r.data, 0)
  | none => (0, [], 6) := if_pos h

end Go.Proofs.YtlfpafdkegnkoaaGreat.Pm
