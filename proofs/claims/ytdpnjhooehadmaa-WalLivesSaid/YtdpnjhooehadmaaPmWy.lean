/- Lists of numbers as arguments. No law of Go's is stated here. -/
import Derived.Test.YtdpnjhooehadmaaPmMh
import Derived.Test.YtdpnjhooehadmaaPmWu
set_option linter.all false
set_option maxRecDepth 100000
namespace Go.Proofs.Ytdpnjhooehadmaa.Pm
open Go Go.RowKit

theorem arg_ints {d : Nat} {x : T} (h : ArgFits Try.prog (d + 2) 98 x) : ∃ l : List Int, x = .sl (intsT l) ∧ ∀ s ∈ l, -9223372036854775808 ≤ s ∧ s ≤ 9223372036854775807 := by
  obtain ⟨es, e1, e2, e3⟩ := fits_sl ti98 (arg_sl ti98 h)
  obtain ⟨l, rfl⟩ := list_form (f := fun n : {n : Int // -9223372036854775808 ≤ n ∧ n ≤ 9223372036854775807} => [T.i .i64 n.1]) fun y hy => by
    obtain ⟨n, rfl, l, u⟩ := fits_i64' ti3 (e3 y hy)
    exact ⟨⟨n, l, u⟩, rfl⟩
  simp only [List.cons.injEq, and_true] at e1
  refine ⟨l.map Subtype.val, by rw [e1]; simp [intsT, Function.comp_def], fun s hs => ?_⟩
  simp only [List.mem_map] at hs
  obtain ⟨n, _, rfl⟩ := hs
  exact n.2
end Go.Proofs.Ytdpnjhooehadmaa.Pm
