/- crc: the statement CrcMixes: sums mix as bytes do and small changes are seen, for any three lists of bytes, an index and four bytes. -/
import Derived.Test.YtadnjellfiafaaaPmDb
import Derived.Test.YtadnjellfiafaaaPmCf
set_option linter.all false
namespace Go.Proofs.Ytadnjellfiafaaa.Pm
open Go Go.RowKit Go.ChangeShapes Go.WideShapes Go.ChangeAt

theorem CrcMixes_lifted (os : Os) (started : os.Started) (H : Type) (enc : TypeId × Value → H) :
    ReturnsInHanded {} Try.checked os 5 .any (Rows.crcMixesSpec.pre6 enc Try.prog Try.f5 Rows.crcMixesRow.domain false) (Rows.crcMixesSpec.post enc Try.prog Try.f5 false true false false) :=
  law_of (C := Try.checked) (s := Rows.crcMixesSpec) (d := 4) H enc own started (by kernel_rfl) Try.func5
      (ChangeSpec.witness6 (enc := enc) (C := Try.checked) false ⟨#[], #[.slice none 0 0, .slice none 0 0, .slice none 0 0, .int .i64 0, .agg #[.int .u8 0, .int .u8 0, .int .u8 0, .int .u8 0]], []⟩ 8 (by kernel_rfl) (by kernel_rfl) (by kernel_rfl) (by kernel_rfl))
      rfl (tb := 4) (by kernel_rfl) Try.underlying4 (by kernel_rfl) laid (by kernel_rfl)
      (fun ds hd => by
        match ds, hd with
        | [a0, a1, a2, a3, a4], _ => rfl)
      (fun xs hx => by
        have hx' : All2 (ArgFits Try.prog 4) [22, 22, 22, 3, 38] xs := hx
        clear hx
        obtain ⟨_, _, rfl, h0, hx'⟩ := all2_cons hx'
        obtain ⟨_, _, rfl, h1, hx'⟩ := all2_cons hx'
        obtain ⟨_, _, rfl, h2, hx'⟩ := all2_cons hx'
        obtain ⟨_, _, rfl, h3, hx'⟩ := all2_cons hx'
        obtain ⟨_, _, rfl, h4, hx'⟩ := all2_cons hx'
        obtain rfl := all2_nil hx'
        obtain ⟨bs0, rfl⟩ := fits_bytes (d := 2) Try.underlying22 Try.underlying5 h0
        obtain ⟨bs1, rfl⟩ := fits_bytes (d := 2) Try.underlying22 Try.underlying5 h1
        obtain ⟨bs2, rfl⟩ := fits_bytes (d := 2) Try.underlying22 Try.underlying5 h2
        obtain ⟨n3, rfl, l3, u3⟩ := fits_i64 (d := 3) Try.underlying3 h3
        obtain ⟨o40, o41, o42, o43, rfl⟩ := fits_four (d := 2) Try.underlying38 Try.underlying5 h4
        exact s_law02_CrcMixes bs0 bs1 bs2 n3 l3 u3 o40 o41 o42 o43)
theorem CrcMixes_holds : Rows.CrcMixesSaid :=
  OpenClaim.holds_of_wide 5 Try.f5 rfl rfl rfl rfl rfl rfl rfl ⟨rfl, rfl, rfl, rfl, rfl⟩ rfl rfl rfl rfl rfl (by kernel_rfl) Try.func5 (by kernel_rfl)
    (of_decide_eq_true (by kernel_rfl)) (by unfold Func.isWrapper; first | (rw [if_pos (by decide +kernel)]; kernel_rfl) | (rw [if_neg (by decide +kernel)]; exact ⟨rfl, rfl⟩))
    (fun os started H enc _ => CrcMixes_lifted os started H enc)
end Go.Proofs.Ytadnjellfiafaaa.Pm
namespace Go.Proofs.Ytadnjellfiafaaa
theorem CrcMixes_proved : Rows.CrcMixesSaid := Pm.CrcMixes_holds
#print axioms CrcMixes_proved
end Go.Proofs.Ytadnjellfiafaaa
