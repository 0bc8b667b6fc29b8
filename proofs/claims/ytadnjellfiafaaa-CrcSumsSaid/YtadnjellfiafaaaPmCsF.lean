/- crc: the statement CrcSums: Sum, Update and Row return the reference's sums, rows and errors for all bytes and numbers. -/
import Derived.Test.YtadnjellfiafaaaPmCe
import Derived.Test.YtadnjellfiafaaaPmFin
set_option linter.all false
namespace Go.Proofs.Ytadnjellfiafaaa.Pm
open Go Go.RowKit Go.ChangeShapes Go.WideShapes Go.ChangeAt

theorem own : ownKnob Try.prog.godebug = none := by kernel_rfl
theorem laid : laidOutB Try.prog = true := by kernel_rfl

/-- Bytes. -/
theorem fits_bytes {t e d : Nat} {x : T} (ht : Try.prog.underlying t = some (.slice e)) (he : Try.prog.underlying e = some (.int .u8)) (h : ArgFits Try.prog (d + 2) t x) : ∃ bs, x = .sl (bT bs) := by
  unfold ArgFits at h
  rw [ht] at h
  simp only [Fits, ht, List.cons.injEq, and_true] at h
  obtain ⟨es, rfl, _, hes⟩ := h
  refine ⟨es.map fun e => match e with | [.i _ n] => BitVec.ofInt 8 n | _ => 0, ?_⟩
  congr 1
  unfold bT
  rw [List.map_map]
  conv => lhs; rw [← List.map_id es]
  refine List.map_congr_left fun y hy => ?_
  have := hes y hy
  rw [he] at this
  obtain ⟨n, rfl, h0, h1⟩ := this
  simp [IntKind.min, IntKind.max, IntKind.signed, IntKind.bits] at h0 h1
  simp only [Function.comp, id]
  rw [← bv8_of h0 (by omega)]
theorem fits_u32 {t d : Nat} {x : T} (ht : Try.prog.underlying t = some (.int .u32)) (h : ArgFits Try.prog (d + 1) t x) : ∃ c : BitVec 32, x = .i .u32 c.toNat := by
  unfold ArgFits at h
  rw [ht] at h
  simp only [Fits, ht, List.cons.injEq, and_true] at h
  obtain ⟨n, rfl, h0, h1⟩ := h
  simp [IntKind.min, IntKind.max, IntKind.signed, IntKind.bits] at h0 h1
  exact ⟨BitVec.ofInt 32 n, by rw [← bv32_of h0 (by omega)]⟩
theorem fits_i64 {t d : Nat} {x : T} (ht : Try.prog.underlying t = some (.int .i64)) (h : ArgFits Try.prog (d + 1) t x) : ∃ n : Int, x = .i .i64 n ∧ -9223372036854775808 ≤ n ∧ n ≤ 9223372036854775807 := by
  unfold ArgFits at h
  rw [ht] at h
  simp only [Fits, ht, List.cons.injEq, and_true] at h
  obtain ⟨n, rfl, h0, h1⟩ := h
  simp [IntKind.min, IntKind.max, IntKind.signed, IntKind.bits] at h0 h1
  exact ⟨n, rfl, h0, h1⟩

theorem CrcSums_lifted (os : Os) (started : os.Started) (H : Type) (enc : TypeId × Value → H) :
    ReturnsInHanded {} Try.checked os 3 .any (Rows.crcSumsSpec.pre6 enc Try.prog Try.f3 Rows.crcSumsRow.domain false) (Rows.crcSumsSpec.post enc Try.prog Try.f3 false true false false) :=
  law_of (C := Try.checked) (s := Rows.crcSumsSpec) (d := 4) H enc own started (by kernel_rfl) Try.func3
      (ChangeSpec.witness6 (enc := enc) (C := Try.checked) false ⟨#[], #[.slice none 0 0, .int .u32 0, .int .i64 0], []⟩ 8 (by kernel_rfl) (by kernel_rfl) (by kernel_rfl) (by kernel_rfl))
      rfl (tb := 4) (by kernel_rfl) Try.underlying4 (by kernel_rfl) laid (by kernel_rfl)
      (fun ds hd => by
        match ds, hd with
        | [a, b, c], _ => rfl)
      (fun xs hx => by
        have hx' : All2 (ArgFits Try.prog 4) [22, 23, 3] xs := hx
        clear hx
        obtain ⟨_, _, rfl, h0, hx'⟩ := all2_cons hx'
        obtain ⟨_, _, rfl, h1, hx'⟩ := all2_cons hx'
        obtain ⟨_, _, rfl, h2, hx'⟩ := all2_cons hx'
        obtain rfl := all2_nil hx'
        obtain ⟨bs, rfl⟩ := fits_bytes (d := 2) Try.underlying22 Try.underlying5 h0
        obtain ⟨c, rfl⟩ := fits_u32 (d := 3) Try.underlying23 h1
        obtain ⟨i, rfl, _⟩ := fits_i64 (d := 3) Try.underlying3 h2
        exact s3 bs c i)
theorem CrcSums_holds : Rows.CrcSumsSaid :=
  OpenClaim.holds_of_wide 3 Try.f3 rfl rfl rfl rfl rfl rfl rfl ⟨rfl, rfl, rfl, rfl, rfl⟩ rfl rfl rfl rfl rfl (by kernel_rfl) Try.func3 (by kernel_rfl)
    (of_decide_eq_true (by kernel_rfl)) (by unfold Func.isWrapper; first | (rw [if_pos (by decide +kernel)]; kernel_rfl) | (rw [if_neg (by decide +kernel)]; exact ⟨rfl, rfl⟩))
    (fun os started H enc _ => CrcSums_lifted os started H enc)
end Go.Proofs.Ytadnjellfiafaaa.Pm
namespace Go.Proofs.Ytadnjellfiafaaa
theorem CrcSums_proved : Rows.CrcSumsSaid := Pm.CrcSums_holds
#print axioms CrcSums_proved
end Go.Proofs.Ytadnjellfiafaaa
