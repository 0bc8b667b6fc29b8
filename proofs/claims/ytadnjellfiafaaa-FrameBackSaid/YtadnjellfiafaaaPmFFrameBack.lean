/- frame: the statement FrameBack: what is found has the bytes that were used, for any bytes. -/
import Derived.Test.YtadnjellfiafaaaPmFs
import Derived.Test.YtadnjellfiafaaaPmMf
set_option linter.all false
namespace Go.Proofs.Ytadnjellfiafaaa.Pm
open Go Go.RowKit Go.ChangeShapes Go.WideShapes Go.ChangeAt

theorem FrameBack_lifted (os : Os) (started : os.Started) (H : Type) (enc : TypeId × Value → H) :
    ReturnsInHanded {} Try.checked os 11 .any (Rows.frameBackSpec.pre6 enc Try.prog Try.f11 Rows.frameBackRow.domain false) (Rows.frameBackSpec.post enc Try.prog Try.f11 false true false false) :=
  law_of (C := Try.checked) (s := Rows.frameBackSpec) (d := 4) H enc own started (by kernel_rfl) Try.func11
      (ChangeSpec.witness6 (enc := enc) (C := Try.checked) false ⟨#[], #[.slice none 0 0], []⟩ 8 (by kernel_rfl) (by kernel_rfl) (by kernel_rfl) (by kernel_rfl))
      rfl (tb := 4) (by kernel_rfl) Try.underlying4 (by kernel_rfl) laid (by kernel_rfl)
      (fun ds hd => by
        match ds, hd with
        | [a0], _ => rfl)
      (fun xs hx => by
        have hx' : All2 (ArgFits Try.prog 4) [22] xs := hx
        clear hx
        obtain ⟨_, _, rfl, h0, hx'⟩ := all2_cons hx'
        obtain rfl := all2_nil hx'
        obtain ⟨b0, rfl, n0⟩ := arg_bs (d := 2) h0
        exact law_FrameBack b0)
theorem FrameBack_holds : Rows.FrameBackSaid :=
  OpenClaim.holds_of_wide 11 Try.f11 rfl rfl rfl rfl rfl rfl rfl ⟨rfl, rfl, rfl, rfl, rfl⟩ rfl rfl rfl rfl rfl (by kernel_rfl) Try.func11 (by kernel_rfl)
    (of_decide_eq_true (by kernel_rfl)) (by unfold Func.isWrapper; first | (rw [if_pos (by decide +kernel)]; kernel_rfl) | (rw [if_neg (by decide +kernel)]; exact ⟨rfl, rfl⟩))
    (fun os started H enc _ => FrameBack_lifted os started H enc)
end Go.Proofs.Ytadnjellfiafaaa.Pm
namespace Go.Proofs.Ytadnjellfiafaaa
theorem FrameBack_proved : Rows.FrameBackSaid := Pm.FrameBack_holds
#print axioms FrameBack_proved
end Go.Proofs.Ytadnjellfiafaaa
