/- crc: the statement CrcTails: bytes with their tail have the wanted sum and any other four bytes give another one, for any bytes, sum and four bytes. -/
import Derived.Test.YtadnjellfiafaaaPmCy
import Derived.Test.YtadnjellfiafaaaPmCf
set_option linter.all false
namespace Go.Proofs.Ytadnjellfiafaaa.Pm
open Go Go.RowKit Go.ChangeShapes Go.WideShapes Go.ChangeAt

theorem CrcTails_lifted (os : Os) (started : os.Started) (H : Type) (enc : TypeId × Value → H) :
    ReturnsInHanded {} Try.checked os 8 .any (Rows.crcTailsSpec.pre6 enc Try.prog Try.f8 Rows.crcTailsRow.domain false) (Rows.crcTailsSpec.post enc Try.prog Try.f8 false true false false) :=
  law_of (C := Try.checked) (s := Rows.crcTailsSpec) (d := 4) H enc own started (by kernel_rfl) Try.func8
      (ChangeSpec.witness6 (enc := enc) (C := Try.checked) false ⟨#[], #[.slice none 0 0, .int .u32 0, .agg #[.int .u8 0, .int .u8 0, .int .u8 0, .int .u8 0]], []⟩ 8 (by kernel_rfl) (by kernel_rfl) (by kernel_rfl) (by kernel_rfl))
      rfl (tb := 4) (by kernel_rfl) Try.underlying4 (by kernel_rfl) laid (by kernel_rfl)
      (fun ds hd => by
        match ds, hd with
        | [a0, a1, a2], _ => rfl)
      (fun xs hx => by
        have hx' : All2 (ArgFits Try.prog 4) [22, 23, 38] xs := hx
        clear hx
        obtain ⟨_, _, rfl, h0, hx'⟩ := all2_cons hx'
        obtain ⟨_, _, rfl, h1, hx'⟩ := all2_cons hx'
        obtain ⟨_, _, rfl, h2, hx'⟩ := all2_cons hx'
        obtain rfl := all2_nil hx'
        obtain ⟨bs0, rfl⟩ := fits_bytes (d := 2) Try.underlying22 Try.underlying5 h0
        obtain ⟨c1, rfl⟩ := fits_u32 (d := 3) Try.underlying23 h1
        obtain ⟨o20, o21, o22, o23, rfl⟩ := fits_four (d := 2) Try.underlying38 Try.underlying5 h2
        exact s_law02_CrcTails bs0 c1 o20 o21 o22 o23)
theorem CrcTails_holds : Rows.CrcTailsSaid :=
  OpenClaim.holds_of_wide 8 Try.f8 rfl rfl rfl rfl rfl rfl rfl ⟨rfl, rfl, rfl, rfl, rfl⟩ rfl rfl rfl rfl rfl (by kernel_rfl) Try.func8 (by kernel_rfl)
    (of_decide_eq_true (by kernel_rfl)) (by unfold Func.isWrapper; first | (rw [if_pos (by decide +kernel)]; kernel_rfl) | (rw [if_neg (by decide +kernel)]; exact ⟨rfl, rfl⟩))
    (fun os started H enc _ => CrcTails_lifted os started H enc)
end Go.Proofs.Ytadnjellfiafaaa.Pm
namespace Go.Proofs.Ytadnjellfiafaaa
theorem CrcTails_proved : Rows.CrcTailsSaid := Pm.CrcTails_holds
#print axioms CrcTails_proved
end Go.Proofs.Ytadnjellfiafaaa
