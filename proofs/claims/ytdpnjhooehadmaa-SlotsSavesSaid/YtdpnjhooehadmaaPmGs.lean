/- disk: plain facts on devices. No law of Go's is stated here. -/
import Derived.Test.YtdpnjhooehadmaaPmMg
set_option linter.all false
set_option maxRecDepth 100000
namespace Go.Proofs.Ytdpnjhooehadmaa.Pm
open Go Go.RowKit

theorem orE_small {d : Dev} {p : Dev × Int} (h : d.check = 0 → p.1.small) : (orE d p).1.small := by
  unfold orE
  split
  · refine h ?_
    rcases d.up3 with ⟨hc, hn, hu⟩ | ⟨hc, hn, hu⟩ | ⟨hc, hn, hu⟩ <;> omega
  · exact ⟨Nat.zero_le _, Nat.zero_le _⟩
theorem zeroD_small : zeroD.small := ⟨Nat.zero_le _, Nat.zero_le _⟩
theorem app_small (d : Dev) (b : List (BitVec 8)) : (d.app b).1.small := orE_small fun h => by
  have := d.ok_of h
  split
  · exact ⟨by show d.syn.length ≤ _; omega, by show (d.tail ++ b).length ≤ _; rw [List.length_append]; omega⟩
  · exact zeroD_small
theorem sync_small (d : Dev) : (d.sync).1.small := orE_small fun h => by
  have := d.ok_of h
  exact ⟨by show (d.syn ++ d.tail).length ≤ _; rw [List.length_append]; omega, Nat.zero_le _⟩
theorem trunc_small (d : Dev) (n : Int) : (d.trunc n).1.small := orE_small fun h => by
  have := d.ok_of h
  split
  · exact ⟨by show (List.take _ _).length ≤ _; rw [List.length_take]; omega, by show (List.take _ _).length ≤ _; rw [List.length_take]; omega⟩
  · exact zeroD_small
theorem crash_small (d : Dev) (n : Int) : (d.crash n).1.small := orE_small fun h => by
  have := d.ok_of h
  split
  · exact ⟨by show (d.syn ++ List.take _ _).length ≤ _; rw [List.length_append, List.length_take]; omega, Nat.zero_le _⟩
  · exact zeroD_small
theorem upE_of {d : Dev} (h : d.check = 0) (hd : d.down = false) : d.upE = 0 := by
  rcases d.up3 with ⟨hc, hn, hu⟩ | ⟨hc, hn, hu⟩ | ⟨hc, hn, hu⟩
  · omega
  · rw [hd] at hn; cases hn
  · exact hu
end Go.Proofs.Ytdpnjhooehadmaa.Pm
