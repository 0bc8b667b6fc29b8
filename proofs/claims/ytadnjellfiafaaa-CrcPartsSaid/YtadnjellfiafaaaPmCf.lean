/- crc: the arguments of the statements, as they are read. No law of Go's is stated here. -/
import Derived.Test.YtadnjellfiafaaaPmFin
import Derived.Test.YtadnjellfiafaaaPmTy
set_option linter.all false
namespace Go.Proofs.Ytadnjellfiafaaa.Pm
open Go Go.RowKit Go.ChangeShapes Go.WideShapes Go.ChangeAt

theorem own : ownKnob Try.prog.godebug = none := by kernel_rfl
theorem laid : laidOutB Try.prog = true := by kernel_rfl

/-- Bytes. -/
theorem fits_bytes {t e d : Nat} {x : T} (ht : Try.prog.underlying t = some (.slice e)) (he : Try.prog.underlying e = some (.int .u8)) (h : ArgFits Try.prog (d + 2) t x) : ∃ bs, x = .sl (bT bs) := by
  unfold ArgFits at h
  rw [ht] at h
  simp only [Fits, ht, List.cons.injEq, and_true] at h
  obtain ⟨es, rfl, _, hes⟩ := h
  refine ⟨es.map fun e => match e with | [.i _ n] => BitVec.ofInt 8 n | _ => 0, ?_⟩
  congr 1
  unfold bT
  rw [List.map_map]
  conv => lhs; rw [← List.map_id es]
  refine List.map_congr_left fun y hy => ?_
  have := hes y hy
  rw [he] at this
  obtain ⟨n, rfl, h0, h1⟩ := this
  simp [IntKind.min, IntKind.max, IntKind.signed, IntKind.bits] at h0 h1
  simp only [Function.comp, id]
  rw [← bv8_of h0 (by omega)]
theorem fits_u32 {t d : Nat} {x : T} (ht : Try.prog.underlying t = some (.int .u32)) (h : ArgFits Try.prog (d + 1) t x) : ∃ c : BitVec 32, x = .i .u32 c.toNat := by
  unfold ArgFits at h
  rw [ht] at h
  simp only [Fits, ht, List.cons.injEq, and_true] at h
  obtain ⟨n, rfl, h0, h1⟩ := h
  simp [IntKind.min, IntKind.max, IntKind.signed, IntKind.bits] at h0 h1
  exact ⟨BitVec.ofInt 32 n, by rw [← bv32_of h0 (by omega)]⟩
theorem fits_i64 {t d : Nat} {x : T} (ht : Try.prog.underlying t = some (.int .i64)) (h : ArgFits Try.prog (d + 1) t x) : ∃ n : Int, x = .i .i64 n ∧ -9223372036854775808 ≤ n ∧ n ≤ 9223372036854775807 := by
  unfold ArgFits at h
  rw [ht] at h
  simp only [Fits, ht, List.cons.injEq, and_true] at h
  obtain ⟨n, rfl, h0, h1⟩ := h
  simp [IntKind.min, IntKind.max, IntKind.signed, IntKind.bits] at h0 h1
  exact ⟨n, rfl, h0, h1⟩

end Go.Proofs.Ytadnjellfiafaaa.Pm
