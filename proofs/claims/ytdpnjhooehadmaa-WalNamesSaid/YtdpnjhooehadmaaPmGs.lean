/- disk: plain facts on devices. No law of Go's is stated here. -/
import Derived.Test.YtdpnjhooehadmaaPmMg
set_option linter.all false
set_option maxRecDepth 100000
namespace Go.Proofs.Ytdpnjhooehadmaa.Pm
open Go Go.RowKit

theorem orE_small {d : Dev} {p : Dev × Int} (h : d.check = 0 → p.1.small) : (orE d p).1.small := by
  unfold orE
  split
  · refine h ?_
    rcases d.up3 with ⟨hc, hn, hu⟩ | ⟨hc, hn, hu⟩ | ⟨hc, hn, hu⟩ <;> omega
  · exact ⟨Nat.zero_le _, Nat.zero_le _⟩
theorem zeroD_small : zeroD.small := ⟨Nat.zero_le _, Nat.zero_le _⟩
theorem trunc_small (d : Dev) (n : Int) : (d.trunc n).1.small := orE_small fun h => by
  have := d.ok_of h
  split
  · exact ⟨by show (List.take _ _).length ≤ _; rw [List.length_take]; omega, by show (List.take _ _).length ≤ _; rw [List.length_take]; omega⟩
  · exact zeroD_small
theorem start_small (d : Dev) : (d.start).1.small := by
  unfold Dev.start
  split
  · rename_i h
    have := d.ok_of h
    split
    · exact ⟨by show d.syn.length ≤ _; omega, Nat.zero_le _⟩
    · exact zeroD_small
  · exact zeroD_small
theorem check_of {d : Dev} (h0 : 0 ≤ d.cap) (h1 : d.cap ≤ 20000) (h2 : (d.syn.length : Int) + d.tail.length ≤ d.cap) (h3 : d.down = true → d.tail = []) : d.check = 0 := by
  have hb : d.bad = false := by
    unfold Dev.bad
    rw [decide_eq_false (by omega), decide_eq_false (by omega), decide_eq_false (by omega)]
    cases hd : d.down
    · rfl
    · rw [h3 hd]; rfl
  unfold Dev.check
  rw [hb]
  rfl
theorem upE_of {d : Dev} (h : d.check = 0) (hd : d.down = false) : d.upE = 0 := by
  rcases d.up3 with ⟨hc, hn, hu⟩ | ⟨hc, hn, hu⟩ | ⟨hc, hn, hu⟩
  · omega
  · rw [hd] at hn; cases hn
  · exact hu
theorem orE_zero {d : Dev} {p : Dev × Int} (h : (orE d p).2 = 0) : d.check = 0 ∧ d.upE = 0 ∧ orE d p = p := by
  unfold orE at h ⊢
  split at h
  · rename_i hu
    rcases d.up3 with ⟨hc, hn, hu'⟩ | ⟨hc, hn, hu'⟩ | ⟨hc, hn, hu'⟩
    · omega
    · omega
    · exact ⟨hc, hu, if_pos hu⟩
  · rename_i hu
    exact absurd h hu
theorem trunc_check {d : Dev} {n : Int} (h : (d.trunc n).2 = 0) : (d.trunc n).1.check = 0 := by
  obtain ⟨hc, hu, e⟩ := orE_zero h
  obtain ⟨k1, k2, k3⟩ := d.ok_of hc
  unfold Dev.trunc at h ⊢
  rw [e] at h ⊢
  split at h
  · rename_i hl
    rw [if_pos hl]
    exact check_of k1 k2 (by show ((d.syn.take _).length : Int) + ((d.tail.take _).length : Nat) ≤ d.cap; rw [List.length_take, List.length_take]; omega) (fun h => by cases h)
  · cases h
theorem start_check {d : Dev} (h : (d.start).2 = 0) : (d.start).1.check = 0 := by
  unfold Dev.start at h ⊢
  split at h
  · rename_i hc
    obtain ⟨k1, k2, k3⟩ := d.ok_of hc
    rw [if_pos hc]
    split at h
    · rename_i hd
      rw [if_pos hd]
      exact check_of k1 k2 (by show (d.syn.length : Int) + (([] : List (BitVec 8)).length : Nat) ≤ d.cap; simp; omega) (fun h => by cases h)
    · cases h
  · rename_i hc
    exact absurd h hc
end Go.Proofs.Ytdpnjhooehadmaa.Pm
