/- frame: the statement FrameNames: the examples, limits, empty records, errors. -/
import Derived.Test.YtadnjellfiafaaaPmFz
import Derived.Test.YtadnjellfiafaaaPmMf
set_option linter.all false
namespace Go.Proofs.Ytadnjellfiafaaa.Pm
open Go Go.RowKit Go.ChangeShapes Go.WideShapes Go.ChangeAt

theorem FrameNames_lifted (os : Os) (started : os.Started) (H : Type) (enc : TypeId × Value → H) :
    ReturnsInHanded {} Try.checked os 13 .any (Rows.frameNamesSpec.pre6 enc Try.prog Try.f13 Rows.frameNamesRow.domain false) (Rows.frameNamesSpec.post enc Try.prog Try.f13 false true false false) :=
  law_of (C := Try.checked) (s := Rows.frameNamesSpec) (d := 4) H enc own started (by kernel_rfl) Try.func13
      (ChangeSpec.witness6 (enc := enc) (C := Try.checked) false ⟨#[], #[], []⟩ 8 (by kernel_rfl) (by kernel_rfl) (by kernel_rfl) (by kernel_rfl))
      rfl (tb := 4) (by kernel_rfl) Try.underlying4 (by kernel_rfl) laid (by kernel_rfl)
      (fun ds hd => by
        match ds, hd with
        | [], _ => rfl)
      (fun xs hx => by
        have hx' : All2 (ArgFits Try.prog 4) [] xs := hx
        clear hx
        obtain rfl := all2_nil hx'
        exact law_FrameNames)
theorem FrameNames_holds : Rows.FrameNamesSaid :=
  OpenClaim.holds_of_wide 13 Try.f13 rfl rfl rfl rfl rfl rfl rfl ⟨rfl, rfl, rfl, rfl, rfl⟩ rfl rfl rfl rfl rfl (by kernel_rfl) Try.func13 (by kernel_rfl)
    (of_decide_eq_true (by kernel_rfl)) (by unfold Func.isWrapper; first | (rw [if_pos (by decide +kernel)]; kernel_rfl) | (rw [if_neg (by decide +kernel)]; exact ⟨rfl, rfl⟩))
    (fun os started H enc _ => FrameNames_lifted os started H enc)
end Go.Proofs.Ytadnjellfiafaaa.Pm
namespace Go.Proofs.Ytadnjellfiafaaa
theorem FrameNames_proved : Rows.FrameNamesSaid := Pm.FrameNames_holds
#print axioms FrameNames_proved
end Go.Proofs.Ytadnjellfiafaaa
