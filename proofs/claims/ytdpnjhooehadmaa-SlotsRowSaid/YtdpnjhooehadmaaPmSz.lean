/- Lists of bytes as arguments. No law of Go's is stated here. -/
import Derived.Test.YtdpnjhooehadmaaPmMu
set_option linter.all false
set_option maxRecDepth 100000
namespace Go.Proofs.Ytdpnjhooehadmaa.Pm
open Go Go.RowKit

theorem arg_rows {d : Nat} {x : T} (h : ArgFits Try.prog (d + 3) 94 x) : ∃ l : List (List (BitVec 8)), x = .sl (catE l) ∧ ∀ b ∈ l, b.length ≤ 140737488355328 := by
  obtain ⟨es, e1, e2, e3⟩ := fits_sl ti94 (arg_sl ti94 h)
  obtain ⟨l, rfl⟩ := list_form (f := fun n : {b : List (BitVec 8) // b.length ≤ 140737488355328} => [T.sl (bT n.1)]) fun y hy => by
    obtain ⟨bs, rfl, hb⟩ := fits_bs ti22 ti5 (e3 y hy)
    exact ⟨⟨bs, by simpa [room] using hb⟩, rfl⟩
  simp only [List.cons.injEq, and_true] at e1
  refine ⟨l.map Subtype.val, by rw [e1]; simp [catE, Function.comp_def], fun s hs => ?_⟩
  simp only [List.mem_map] at hs
  obtain ⟨n, _, rfl⟩ := hs
  exact n.2
end Go.Proofs.Ytdpnjhooehadmaa.Pm
