/- frame: plain facts: whole records within bytes. No law of Go's is stated here. -/
import Derived.Test.YtdpnjhooehadmaaPmMf
set_option linter.all false
set_option maxRecDepth 100000
namespace Go.Proofs.Ytdpnjhooehadmaa.Pm
open Go Go.RowKit

theorem scan_whole {l : List Rec} (h : follows l = true) : scanL (catR l) = l := by
  have := scan_torn h (n := (catR l).length) (k := l.length) (Nat.le_refl _) (Nat.le_refl _) (by rw [List.take_length]; exact Nat.le_refl _) (fun h => absurd h (Nat.lt_irrefl _))
  rw [List.take_length, List.take_length] at this
  exact this
end Go.Proofs.Ytdpnjhooehadmaa.Pm
