/- crc: the arguments of the statements, as they are read. No law of Go's is stated here. -/
import Derived.Test.YtadnjellfiafaaaPmFin
import Derived.Test.YtadnjellfiafaaaPmTy
set_option linter.all false
namespace Go.Proofs.Ytadnjellfiafaaa.Pm
open Go Go.RowKit Go.ChangeShapes Go.WideShapes Go.ChangeAt

theorem own : ownKnob Try.prog.godebug = none := by kernel_rfl
theorem laid : laidOutB Try.prog = true := by kernel_rfl

/-- Bytes. -/
theorem fits_bytes {t e d : Nat} {x : T} (ht : Try.prog.underlying t = some (.slice e)) (he : Try.prog.underlying e = some (.int .u8)) (h : ArgFits Try.prog (d + 2) t x) : ∃ bs, x = .sl (bT bs) := by
  unfold ArgFits at h
  rw [ht] at h
  simp only [Fits, ht, List.cons.injEq, and_true] at h
  obtain ⟨es, rfl, _, hes⟩ := h
  refine ⟨es.map fun e => match e with | [.i _ n] => BitVec.ofInt 8 n | _ => 0, ?_⟩
  congr 1
  unfold bT
  rw [List.map_map]
  conv => lhs; rw [← List.map_id es]
  refine List.map_congr_left fun y hy => ?_
  have := hes y hy
  rw [he] at this
  obtain ⟨n, rfl, h0, h1⟩ := this
  simp [IntKind.min, IntKind.max, IntKind.signed, IntKind.bits] at h0 h1
  simp only [Function.comp, id]
  rw [← bv8_of h0 (by omega)]
theorem fits_u32 {t d : Nat} {x : T} (ht : Try.prog.underlying t = some (.int .u32)) (h : ArgFits Try.prog (d + 1) t x) : ∃ c : BitVec 32, x = .i .u32 c.toNat := by
  unfold ArgFits at h
  rw [ht] at h
  simp only [Fits, ht, List.cons.injEq, and_true] at h
  obtain ⟨n, rfl, h0, h1⟩ := h
  simp [IntKind.min, IntKind.max, IntKind.signed, IntKind.bits] at h0 h1
  exact ⟨BitVec.ofInt 32 n, by rw [← bv32_of h0 (by omega)]⟩
theorem fits_i64 {t d : Nat} {x : T} (ht : Try.prog.underlying t = some (.int .i64)) (h : ArgFits Try.prog (d + 1) t x) : ∃ n : Int, x = .i .i64 n ∧ -9223372036854775808 ≤ n ∧ n ≤ 9223372036854775807 := by
  unfold ArgFits at h
  rw [ht] at h
  simp only [Fits, ht, List.cons.injEq, and_true] at h
  obtain ⟨n, rfl, h0, h1⟩ := h
  simp [IntKind.min, IntKind.max, IntKind.signed, IntKind.bits] at h0 h1
  exact ⟨n, rfl, h0, h1⟩

theorem fits_u8s {e d : Nat} (he : Try.prog.underlying e = some (.int .u8)) {p : List T} (h : Fits Try.prog (d + 1) e p) : ∃ o : BitVec 8, p = [.i .u8 o.toNat] := by
  simp only [Fits, he] at h
  obtain ⟨n, rfl, h0, h1⟩ := h
  simp [IntKind.min, IntKind.max, IntKind.signed, IntKind.bits] at h0 h1
  exact ⟨BitVec.ofInt 8 n, by rw [← bv8_of h0 (by omega)]⟩
theorem fits_four {t e d : Nat} {x : T} (ht : Try.prog.underlying t = some (.array 4 e)) (he : Try.prog.underlying e = some (.int .u8)) (h : ArgFits Try.prog (d + 2) t x) :
    ∃ o0 o1 o2 o3 : BitVec 8, x = .agg [.i .u8 o0.toNat, .i .u8 o1.toNat, .i .u8 o2.toNat, .i .u8 o3.toNat] := by
  unfold ArgFits at h
  rw [ht] at h
  obtain ⟨xs, rfl, h⟩ := h
  simp only [Fits, ht] at h
  obtain ⟨ps, rfl, hl, hp⟩ := h
  match ps, hl with
  | [p0, p1, p2, p3], _ =>
    obtain ⟨o0, rfl⟩ := fits_u8s (d := d) he (hp p0 (by simp))
    obtain ⟨o1, rfl⟩ := fits_u8s (d := d) he (hp p1 (by simp))
    obtain ⟨o2, rfl⟩ := fits_u8s (d := d) he (hp p2 (by simp))
    obtain ⟨o3, rfl⟩ := fits_u8s (d := d) he (hp p3 (by simp))
    exact ⟨o0, o1, o2, o3, rfl⟩
end Go.Proofs.Ytadnjellfiafaaa.Pm
