/- frame: the statement FrameScans: a scan returns the reference's records, number and error, for any bytes. -/
import Derived.Test.YtadnjellfiafaaaPmFn
import Derived.Test.YtadnjellfiafaaaPmCf
set_option linter.all false
namespace Go.Proofs.Ytadnjellfiafaaa.Pm
open Go Go.RowKit Go.ChangeShapes Go.WideShapes Go.ChangeAt

theorem FrameScans_lifted (os : Os) (started : os.Started) (H : Type) (enc : TypeId × Value → H) :
    ReturnsInHanded {} Try.checked os 6 .any (Rows.frameScansSpec.pre6 enc Try.prog Try.f6 Rows.frameScansRow.domain false) (Rows.frameScansSpec.post enc Try.prog Try.f6 false true false false) :=
  law_of (C := Try.checked) (s := Rows.frameScansSpec) (d := 4) H enc own started (by kernel_rfl) Try.func6
      (ChangeSpec.witness6 (enc := enc) (C := Try.checked) false ⟨#[], #[.slice none 0 0], []⟩ 8 (by kernel_rfl) (by kernel_rfl) (by kernel_rfl) (by kernel_rfl))
      rfl (tb := 4) (by kernel_rfl) Try.underlying4 (by kernel_rfl) laid (by kernel_rfl)
      (fun ds hd => by
        match ds, hd with
        | [a0], _ => rfl)
      (fun xs hx => by
        have hx' : All2 (ArgFits Try.prog 4) [22] xs := hx
        clear hx
        obtain ⟨_, _, rfl, h0, hx'⟩ := all2_cons hx'
        obtain rfl := all2_nil hx'
        obtain ⟨bs0, rfl⟩ := fits_bytes (d := 2) Try.underlying22 Try.underlying5 h0
        exact law_FrameScans bs0)
theorem FrameScans_holds : Rows.FrameScansSaid :=
  OpenClaim.holds_of_wide 6 Try.f6 rfl rfl rfl rfl rfl rfl rfl ⟨rfl, rfl, rfl, rfl, rfl⟩ rfl rfl rfl rfl rfl (by kernel_rfl) Try.func6 (by kernel_rfl)
    (of_decide_eq_true (by kernel_rfl)) (by unfold Func.isWrapper; first | (rw [if_pos (by decide +kernel)]; kernel_rfl) | (rw [if_neg (by decide +kernel)]; exact ⟨rfl, rfl⟩))
    (fun os started H enc _ => FrameScans_lifted os started H enc)
end Go.Proofs.Ytadnjellfiafaaa.Pm
namespace Go.Proofs.Ytadnjellfiafaaa
theorem FrameScans_proved : Rows.FrameScansSaid := Pm.FrameScans_holds
#print axioms FrameScans_proved
end Go.Proofs.Ytadnjellfiafaaa
