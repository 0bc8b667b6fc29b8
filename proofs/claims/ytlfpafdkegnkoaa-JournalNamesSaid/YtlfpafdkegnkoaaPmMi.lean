/- Texts of this proof in one file: PmSe, PmSf, PmSq. No law of Go's is stated here. -/
import Derived.Test.YtlfpafdkegnkoaaPmMh
import Derived.Test.YtlfpafdkegnkoaaPmMf
set_option linter.all false
set_option maxRecDepth 100000
set_option maxHeartbeats 2000000
namespace Go.Proofs.Ytlfpafdkegnkoaa.Pm
open Go Go.RowKit
def newS (n : Int) : Slt × Int := if (newD n).2 = 0 then (⟨(newD n).1, (newD n).1, 1⟩, 0) else (zeroS, (newD n).2)
theorem s_slots_New (n : Int) : Spec Try.prog 25 [.i .i64 n] [] (resV ((opS (newS n)).map AV.ofT)) := by
  refine spec_k (hold mixed) b_slots_New (opS (newS n)) ?_
  have hN := s_disk_New n
  by_cases h : (newD n).2 = 0
  · have ev : newS n = (⟨(newD n).1, (newD n).1, 1⟩, 0) := if_pos h
    rw [ev]
    generalize newD n = p at *
    simp -implicitDefEqProofs only [go_sem, seval, sk]
    refine call_k hN ?_
    simp -implicitDefEqProofs only [go_sem, seval, sk, opR, h, opS]
  · have ev : newS n = (zeroS, (newD n).2) := if_neg h
    have h' : ((newD n).2 != 0) = true := by simp [h]
    rw [ev]
    generalize newD n = p at *
    simp -implicitDefEqProofs only [go_sem, seval, sk]
    refine call_k hN ?_
    simp -implicitDefEqProofs only [go_sem, seval, sk, opR, h', opS, zeroS_cells]
    try rfl
theorem nextO_bounds (s : Slt) : 1 ≤ nextO s ∧ nextO s ≤ 1000000001 := by
  unfold nextO
  cases ho : newO s with
  | none => exact ⟨by show (1 : Int) ≤ 1; omega, by show (1 : Int) ≤ 1000000001; omega⟩
  | some r =>
    have := newO_ok ho
    exact ⟨by show 1 ≤ r.num + 1; omega, by show r.num + 1 ≤ _; omega⟩
theorem openS_fine {s : Slt} (hs : s.fine) : (openS s).1.fine := by
  unfold openS
  split
  · rename_i h
    have := nextO_bounds ⟨openD s.d0, openD s.d1, 0⟩
    exact ⟨openD_small hs.1 h.1, openD_small hs.2.1 h.2, by show -9223372036854775808 ≤ nextO _; omega, by show nextO _ ≤ _; omega⟩
  · exact ⟨zeroD_small, zeroD_small, by show (-9223372036854775808 : Int) ≤ 0; omega, by show (0 : Int) ≤ 9223372036854775807; omega⟩
structure Slt.has (s : Slt) (n : Int) (b : List (BitVec 8)) : Prop where
  fine : s.fine
  open0 : (openS s).2 = 0
  load : loadS (openS s).1 = (n, b, 0)
  next : (openS s).1.next = n + 1
  lo : 0 ≤ n
  hi : n ≤ 1000000000
instance (d : Dev) : Decidable d.small := by unfold Dev.small; infer_instance
instance (s : Slt) : Decidable s.fine := by unfold Slt.fine; infer_instance
theorem openD_calm {d : Dev} (h : d.check = 0) : (openD d).calm := ⟨openD_check h, rfl, rfl⟩
theorem openS_ok {s : Slt} (h0 : s.d0.check = 0) (h1 : s.d1.check = 0) : (openS s).1.ok := by
  have e : openS s = (⟨openD s.d0, openD s.d1, nextO ⟨openD s.d0, openD s.d1, 0⟩⟩, 0) := if_pos ⟨h0, h1⟩
  rw [e]
  have := nextO_bounds ⟨openD s.d0, openD s.d1, 0⟩
  exact ⟨openD_calm h0, openD_calm h1, this.1, this.2⟩
structure Slt.neat (s : Slt) : Prop where
  ok : s.ok
  next : s.next = nextO s
theorem load_of {s : Slt} (h : s.ok) : loadS s = match newO s with
  | some r => (r.num, r.data, 0)
  | none => (0, [], 6) := if_pos h
theorem halfS_small' (s : Slt) (b : List (BitVec 8)) (n k : Int) : (halfS s b n k).1.d0.small ∧ (halfS s b n k).1.d1.small := by
  unfold halfS
  split
  · split
    · split
      · split
        · exact ⟨crash_small _ _, crash_small _ _⟩
        · exact ⟨zeroD_small, zeroD_small⟩
      · split
        · exact ⟨crash_small _ _, crash_small _ _⟩
        · exact ⟨zeroD_small, zeroD_small⟩
    · exact ⟨zeroD_small, zeroD_small⟩
  · exact ⟨zeroD_small, zeroD_small⟩
theorem halfS_next (s : Slt) (b : List (BitVec 8)) (n k : Int) : (halfS s b n k).1.next = s.next ∨ (halfS s b n k).1.next = 0 := by
  unfold halfS
  split
  · split
    · split
      · split
        · exact .inl rfl
        · exact .inr rfl
      · split
        · exact .inl rfl
        · exact .inr rfl
    · exact .inr rfl
  · exact .inr rfl
end Go.Proofs.Ytlfpafdkegnkoaa.Pm
