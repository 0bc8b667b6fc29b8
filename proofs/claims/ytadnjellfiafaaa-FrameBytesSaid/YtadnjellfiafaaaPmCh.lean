/- Records as arguments. No law of Go's is stated here. -/
import Derived.Test.YtadnjellfiafaaaPmCg
import Derived.Test.YtadnjellfiafaaaPmFb
import Derived.Test.YtadnjellfiafaaaPmFc
set_option linter.all false
namespace Go.Proofs.Ytadnjellfiafaaa.Pm
open Go Go.RowKit

theorem fits_rec {d : Nat} {xs : List T} (hf : Fits Try.prog (d + 3) 51 xs) : ∃ r : Rec, xs = r.cells ∧ r.data.length ≤ room ∧ -9223372036854775808 ≤ r.num ∧ r.num ≤ 9223372036854775807 := by
  obtain ⟨ps, rfl, h⟩ := fits_struct ti51 hf
  obtain ⟨p0, ps, rfl, h0, h⟩ := all2_cons h
  obtain ⟨p1, ps, rfl, h1, h⟩ := all2_cons h
  obtain rfl := all2_nil h
  obtain ⟨n, rfl, l, u⟩ := fits_i64' ti3 h0
  obtain ⟨bs, rfl, hb⟩ := fits_bs ti22 ti5 h1
  exact ⟨⟨n, bs⟩, rfl, hb, l, u⟩
theorem arg_rec {d : Nat} {x : T} (h : ArgFits Try.prog (d + 3) 51 x) : ∃ r : Rec, x = .agg r.cells ∧ r.data.length ≤ room ∧ -9223372036854775808 ≤ r.num ∧ r.num ≤ 9223372036854775807 := by
  obtain ⟨xs, rfl, hf⟩ := arg_struct ti51 h
  obtain ⟨r, rfl, h1⟩ := fits_rec hf
  exact ⟨r, rfl, h1⟩
theorem arg_recs {d : Nat} {x : T} (h : ArgFits Try.prog (d + 4) 40 x) : ∃ l : List Rec, x = .sl (recsT l) ∧ l.length ≤ 140737488355328 := by
  obtain ⟨es, e1, e2, e3⟩ := fits_sl ti40 (arg_sl ti40 h)
  simp only [List.cons.injEq, and_true] at e1
  subst e1
  obtain ⟨l, rfl⟩ := list_form (f := Rec.cells) fun y hy => by
    obtain ⟨r, h1, _⟩ := fits_rec (e3 y hy)
    exact ⟨r, h1⟩
  exact ⟨l, rfl, by simpa [room] using e2⟩
theorem arg_bs {d : Nat} {x : T} (h : ArgFits Try.prog (d + 2) 22 x) : ∃ bs, x = .sl (bT bs) ∧ bs.length ≤ 140737488355328 := by
  obtain ⟨bs, e, hb⟩ := fits_bs ti22 ti5 (arg_sl ti22 h)
  simp only [List.cons.injEq, and_true] at e
  exact ⟨bs, e, by simpa [room] using hb⟩
theorem arg_i64 {d : Nat} {x : T} (h : ArgFits Try.prog (d + 1) 3 x) : ∃ n : Int, x = .i .i64 n ∧ -9223372036854775808 ≤ n ∧ n ≤ 9223372036854775807 := by
  obtain ⟨n, e, hb⟩ := fits_i64' ti3 (arg_int ti3 h)
  simp only [List.cons.injEq, and_true] at e
  exact ⟨n, e, hb⟩
theorem arg_u8 {d : Nat} {x : T} (h : ArgFits Try.prog (d + 1) 5 x) : ∃ b : BitVec 8, x = .i .u8 b.toNat := by
  obtain ⟨n, e⟩ := fits_u8' ti5 (arg_int ti5 h)
  simp only [List.cons.injEq, and_true] at e
  exact ⟨n, e⟩
end Go.Proofs.Ytadnjellfiafaaa.Pm
