/- crc: the statement CrcNames: the examples, known sums, limits and errors. -/
import Derived.Test.YtadnjellfiafaaaPmDa
import Derived.Test.YtadnjellfiafaaaPmCf
set_option linter.all false
namespace Go.Proofs.Ytadnjellfiafaaa.Pm
open Go Go.RowKit Go.ChangeShapes Go.WideShapes Go.ChangeAt

theorem CrcNames_lifted (os : Os) (started : os.Started) (H : Type) (enc : TypeId × Value → H) :
    ReturnsInHanded {} Try.checked os 7 .any (Rows.crcNamesSpec.pre6 enc Try.prog Try.f7 Rows.crcNamesRow.domain false) (Rows.crcNamesSpec.post enc Try.prog Try.f7 false true false false) :=
  law_of (C := Try.checked) (s := Rows.crcNamesSpec) (d := 4) H enc own started (by kernel_rfl) Try.func7
      (ChangeSpec.witness6 (enc := enc) (C := Try.checked) false ⟨#[], #[], []⟩ 8 (by kernel_rfl) (by kernel_rfl) (by kernel_rfl) (by kernel_rfl))
      rfl (tb := 4) (by kernel_rfl) Try.underlying4 (by kernel_rfl) laid (by kernel_rfl)
      (fun ds hd => by
        match ds, hd with
        | [], _ => rfl)
      (fun xs hx => by
        have hx' : All2 (ArgFits Try.prog 4) [] xs := hx
        clear hx
        obtain rfl := all2_nil hx'
        exact s_law02_CrcNames)
theorem CrcNames_holds : Rows.CrcNamesSaid :=
  OpenClaim.holds_of_wide 7 Try.f7 rfl rfl rfl rfl rfl rfl rfl ⟨rfl, rfl, rfl, rfl, rfl⟩ rfl rfl rfl rfl rfl (by kernel_rfl) Try.func7 (by kernel_rfl)
    (of_decide_eq_true (by kernel_rfl)) (by unfold Func.isWrapper; first | (rw [if_pos (by decide +kernel)]; kernel_rfl) | (rw [if_neg (by decide +kernel)]; exact ⟨rfl, rfl⟩))
    (fun os started H enc _ => CrcNames_lifted os started H enc)
end Go.Proofs.Ytadnjellfiafaaa.Pm
namespace Go.Proofs.Ytadnjellfiafaaa
theorem CrcNames_proved : Rows.CrcNamesSaid := Pm.CrcNames_holds
#print axioms CrcNames_proved
end Go.Proofs.Ytadnjellfiafaaa
