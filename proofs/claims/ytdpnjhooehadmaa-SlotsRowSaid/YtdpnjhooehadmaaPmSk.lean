/- slots: the statement SlotsSurvive. No law of Go's is stated here. -/
import Derived.Test.YtdpnjhooehadmaaPmMv
import Derived.Test.YtdpnjhooehadmaaPmYv
set_option linter.all false
set_option maxRecDepth 100000
set_option maxHeartbeats 2000000
namespace Go.Proofs.Ytdpnjhooehadmaa.Pm
open Go Go.RowKit

theorem halfS_small' (s : Slt) (b : List (BitVec 8)) (n k : Int) : (halfS s b n k).1.d0.small ∧ (halfS s b n k).1.d1.small := by
  unfold halfS
  split
  · split
    · split
      · split
        · exact ⟨crash_small _ _, crash_small _ _⟩
        · exact ⟨zeroD_small, zeroD_small⟩
      · split
        · exact ⟨crash_small _ _, crash_small _ _⟩
        · exact ⟨zeroD_small, zeroD_small⟩
    · exact ⟨zeroD_small, zeroD_small⟩
  · exact ⟨zeroD_small, zeroD_small⟩
theorem ok_fine {s : Slt} (h : s.ok) : s.fine := by
  have h0 := s.d0.ok_of h.1.1
  have h1 := s.d1.ok_of h.2.1.1
  obtain ⟨_, _, n0, n1⟩ := h
  exact ⟨⟨by omega, by omega⟩, ⟨by omega, by omega⟩, by omega, by omega⟩
end Go.Proofs.Ytdpnjhooehadmaa.Pm
