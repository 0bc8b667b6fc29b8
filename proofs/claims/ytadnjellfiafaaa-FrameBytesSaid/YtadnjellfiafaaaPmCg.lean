/- Arguments as they are read, by the facts on types. No law of Go's is stated here. -/
import Derived.Test.YtadnjellfiafaaaPmCf
set_option linter.all false
namespace Go.Proofs.Ytadnjellfiafaaa.Pm
open Go Go.RowKit

section
variable {d t e sz nb : Nat} {z xs : List T} {x : T}
theorem und {i : TI} (h : X.ti t = some i) : ∃ k, Try.prog.underlying t = some k ∧ dOK k i.d = true := ((tiOf_ok Try.prog).ok t i h).und
theorem und_sl (h : X.ti t = some ⟨.slice e, sz, nb, z⟩) : Try.prog.underlying t = some (.slice e) := by
  obtain ⟨k, h1, h2⟩ := und h
  cases k <;> simp only [dOK, Bool.false_eq_true, beq_iff_eq] at h2
  rw [h1, h2]
theorem und_int {k : IntKind} (h : X.ti t = some ⟨.int k, sz, nb, z⟩) : Try.prog.underlying t = some (.int k) := by
  obtain ⟨k', h1, h2⟩ := und h
  cases k' <;> simp only [dOK, Bool.false_eq_true, beq_iff_eq] at h2
  rw [h1, h2]
theorem und_bool (h : X.ti t = some ⟨.bool, sz, nb, z⟩) : Try.prog.underlying t = some .bool := by
  obtain ⟨k', h1, h2⟩ := und h
  cases k' <;> simp only [dOK, Bool.false_eq_true] at h2
  exact h1
theorem und_arr {n : Nat} (h : X.ti t = some ⟨.array n e, sz, nb, z⟩) : Try.prog.underlying t = some (.array n e) := by
  obtain ⟨k', h1, h2⟩ := und h
  cases k' <;> simp only [dOK, Bool.false_eq_true, Bool.and_eq_true, beq_iff_eq] at h2
  rw [h1, h2.1, h2.2]
theorem und_struct {fs : List (Nat × Nat)} (h : X.ti t = some ⟨.struct fs, sz, nb, z⟩) : ∃ gs : Array Field, Try.prog.underlying t = some (.struct gs) ∧ gs.toList.map (fun f => (f.offset, f.type)) = fs := by
  obtain ⟨k', h1, h2⟩ := und h
  cases k' <;> simp only [dOK, Bool.false_eq_true, beq_iff_eq] at h2
  exact ⟨_, h1, h2⟩
theorem fits_sl (h : X.ti t = some ⟨.slice e, sz, nb, z⟩) (hf : Fits Try.prog (d + 1) t xs) : ∃ es, xs = [.sl es] ∧ es.length ≤ room ∧ ∀ y ∈ es, Fits Try.prog d e y := by
  simp only [Fits, und_sl h] at hf
  exact hf
theorem fits_int {k : IntKind} (h : X.ti t = some ⟨.int k, sz, nb, z⟩) (hf : Fits Try.prog (d + 1) t xs) : ∃ n, xs = [.i k n] ∧ k.min ≤ n ∧ n ≤ k.max := by
  simp only [Fits, und_int h] at hf
  exact hf
theorem fits_bool (h : X.ti t = some ⟨.bool, sz, nb, z⟩) (hf : Fits Try.prog (d + 1) t xs) : ∃ b, xs = [.b b] := by
  simp only [Fits, und_bool h] at hf
  exact hf
theorem fits_arr {n : Nat} (h : X.ti t = some ⟨.array n e, sz, nb, z⟩) (hf : Fits Try.prog (d + 1) t xs) : ∃ ps : List (List T), xs = ps.flatten ∧ ps.length = n ∧ ∀ p ∈ ps, Fits Try.prog d e p := by
  simp only [Fits, und_arr h] at hf
  exact hf
theorem all2_map {α β γ : Type} {R : β → γ → Prop} (g : α → β) : ∀ {al : List α} {cl : List γ}, All2 (fun a c => R (g a) c) al cl → All2 R (al.map g) cl
  | [], [], _ => trivial
  | _ :: _, _ :: _, h => ⟨h.1, all2_map g h.2⟩
  | [], _ :: _, h => h.elim
  | _ :: _, [], h => h.elim
theorem fits_struct {fs : List (Nat × Nat)} (h : X.ti t = some ⟨.struct fs, sz, nb, z⟩) (hf : Fits Try.prog (d + 1) t xs) : ∃ ps, xs = ps.flatten ∧ All2 (fun (f : Nat × Nat) p => Fits Try.prog d f.2 p) fs ps := by
  obtain ⟨gs, h1, h2⟩ := und_struct h
  simp only [Fits, h1] at hf
  obtain ⟨ps, e1, e2⟩ := hf
  refine ⟨ps, e1, ?_⟩
  rw [← h2]
  exact all2_map (R := fun (f : Nat × Nat) p => Fits Try.prog d f.2 p) (fun f : Field => (f.offset, f.type)) e2
theorem arg_struct {fs : List (Nat × Nat)} (h : X.ti t = some ⟨.struct fs, sz, nb, z⟩) (ha : ArgFits Try.prog d t x) : ∃ xs, x = .agg xs ∧ Fits Try.prog d t xs := by
  obtain ⟨gs, h1, h2⟩ := und_struct h
  unfold ArgFits at ha
  rw [h1] at ha
  exact ha
theorem arg_arr {n : Nat} (h : X.ti t = some ⟨.array n e, sz, nb, z⟩) (ha : ArgFits Try.prog d t x) : ∃ xs, x = .agg xs ∧ Fits Try.prog d t xs := by
  unfold ArgFits at ha
  rw [und_arr h] at ha
  exact ha
theorem arg_sl (h : X.ti t = some ⟨.slice e, sz, nb, z⟩) (ha : ArgFits Try.prog d t x) : Fits Try.prog d t [x] := by
  unfold ArgFits at ha
  rw [und_sl h] at ha
  exact ha
theorem arg_int {k : IntKind} (h : X.ti t = some ⟨.int k, sz, nb, z⟩) (ha : ArgFits Try.prog d t x) : Fits Try.prog d t [x] := by
  unfold ArgFits at ha
  rw [und_int h] at ha
  exact ha
/-- An int. -/
theorem fits_i64' (h : X.ti t = some ⟨.int .i64, sz, nb, z⟩) (hf : Fits Try.prog (d + 1) t xs) : ∃ n : Int, xs = [.i .i64 n] ∧ -9223372036854775808 ≤ n ∧ n ≤ 9223372036854775807 := by
  obtain ⟨n, e, h0, h1⟩ := fits_int h hf
  simp [IntKind.min, IntKind.max, IntKind.signed, IntKind.bits] at h0 h1
  exact ⟨n, e, h0, h1⟩
theorem fits_u8' (h : X.ti t = some ⟨.int .u8, sz, nb, z⟩) (hf : Fits Try.prog (d + 1) t xs) : ∃ b : BitVec 8, xs = [.i .u8 b.toNat] := by
  obtain ⟨n, e, h0, h1⟩ := fits_int h hf
  simp [IntKind.min, IntKind.max, IntKind.signed, IntKind.bits] at h0 h1
  exact ⟨BitVec.ofInt 8 n, by rw [← bv8_of h0 (by omega)]; exact e⟩
/-- A list whose elements are all of a form. -/
theorem list_form {α : Type} {f : α → List T} : ∀ {es : List (List T)}, (∀ y ∈ es, ∃ a, y = f a) → ∃ al : List α, es = al.map f
  | [], _ => ⟨[], rfl⟩
  | y :: es, h => by
    obtain ⟨a, rfl⟩ := h y (by simp)
    obtain ⟨al, rfl⟩ := list_form (es := es) fun y hy => h y (by simp [hy])
    exact ⟨a :: al, rfl⟩
theorem list_form2 {α : Type} {f : α → List T} {p : α → Prop} : ∀ {es : List (List T)}, (∀ y ∈ es, ∃ a, y = f a ∧ p a) → ∃ al : List α, es = al.map f ∧ ∀ a ∈ al, p a
  | [], _ => ⟨[], rfl, by simp⟩
  | y :: es, h => by
    obtain ⟨a, rfl, ha⟩ := h y (by simp)
    obtain ⟨al, rfl, hp⟩ := list_form2 (es := es) fun y hy => h y (by simp [hy])
    exact ⟨a :: al, rfl, fun b hb => by rcases List.mem_cons.1 hb with rfl | hb; exact ha; exact hp b hb⟩
/-- Bytes. -/
theorem fits_bs {sz' nb' : Nat} {z' : List T} (h : X.ti t = some ⟨.slice e, sz, nb, z⟩) (h' : X.ti e = some ⟨.int .u8, sz', nb', z'⟩) (hf : Fits Try.prog (d + 2) t xs) : ∃ bs, xs = [.sl (bT bs)] ∧ bs.length ≤ room := by
  obtain ⟨es, e1, e2, e3⟩ := fits_sl h hf
  obtain ⟨bs, rfl⟩ := list_form (f := fun b : BitVec 8 => [T.i .u8 b.toNat]) fun y hy => fits_u8' h' (e3 y hy)
  exact ⟨bs, e1, by simpa using e2⟩
end
end Go.Proofs.Ytadnjellfiafaaa.Pm
