/- frame: plain facts: whole records within bytes. No law of Go's is stated here. -/
import Derived.Test.YtdpnjhooehadmaaPmMf
set_option linter.all false
set_option maxRecDepth 100000
namespace Go.Proofs.Ytdpnjhooehadmaa.Pm
open Go Go.RowKit

/-- How many whole records lie in so many bytes. -/
def cntR : List Rec → Nat → Nat
  | [], _ => 0
  | r :: l, n => if (bytesL r).length ≤ n then cntR l (n - (bytesL r).length) + 1 else 0
theorem catR_cons (r : Rec) (l : List Rec) : (catR (r :: l)).length = (bytesL r).length + (catR l).length := by simp [catR]
theorem cntR_le : ∀ (l : List Rec) (n : Nat), cntR l n ≤ l.length
  | [], _ => Nat.le_refl _
  | r :: l, n => by
    unfold cntR
    split
    · rw [List.length_cons]; exact Nat.succ_le_succ (cntR_le l _)
    · exact Nat.zero_le _
theorem cntR_in : ∀ (l : List Rec) (n : Nat), (catR (l.take (cntR l n))).length ≤ n
  | [], _ => by rw [List.take_nil]; exact Nat.zero_le _
  | r :: l, n => by
    unfold cntR
    split
    · rw [List.take_succ_cons, catR_cons]
      have := cntR_in l (n - (bytesL r).length)
      omega
    · exact Nat.zero_le _
theorem cntR_out : ∀ (l : List Rec) (n : Nat), cntR l n < l.length → n < (catR (l.take (cntR l n + 1))).length
  | [], _, h => absurd h (by simp)
  | r :: l, n, h => by
    unfold cntR at h ⊢
    split
    · rename_i hc
      rw [if_pos hc, List.length_cons] at h
      have := cntR_out l (n - (bytesL r).length) (by omega)
      rw [List.take_succ_cons, catR_cons]
      omega
    · rw [List.take_succ_cons, catR_cons]
      omega
theorem scan_pre {l : List Rec} (h : follows l = true) {n : Nat} (hn : n ≤ (catR l).length) : scanL ((catR l).take n) = l.take (cntR l n) :=
  scan_torn h hn (cntR_le l n) (cntR_in l n) (cntR_out l n)
theorem catR_mono (l : List Rec) {j k : Nat} (h : j ≤ k) : (catR (l.take j)).length ≤ (catR (l.take k)).length := by
  have := catR_le (l.take k) j
  rw [List.take_take, Nat.min_eq_left h] at this
  exact this
end Go.Proofs.Ytdpnjhooehadmaa.Pm
