/- journal: the statement JournalNames: the examples, limits, each stage of a checkpoint, and errors. -/
import Derived.Test.YtlfpafdkegnkoaaPmIe
import Derived.Test.YtlfpafdkegnkoaaPmMd
set_option linter.all false
set_option maxRecDepth 100000
namespace Go.Proofs.Ytlfpafdkegnkoaa.Pm
open Go Go.RowKit Go.ChangeShapes Go.WideShapes Go.ChangeAt

theorem JournalNames_lifted (os : Os) (started : os.Started) (H : Type) (enc : TypeId × Value → H) :
    ReturnsInHanded {} Try.checked os 4 .any (Rows.journalNamesSpec.pre6 enc Try.prog Try.f4 Rows.journalNamesRow.domain false) (Rows.journalNamesSpec.post enc Try.prog Try.f4 false true false false) :=
  law_of (C := Try.checked) (s := Rows.journalNamesSpec) (d := 4) H enc own started (by kernel_rfl) Try.func4
      (ChangeSpec.witness6 (enc := enc) (C := Try.checked) false ⟨#[], #[], []⟩ 8 (by kernel_rfl) (by kernel_rfl) (by kernel_rfl) (by kernel_rfl))
      rfl (tb := 4) (by kernel_rfl) Try.underlying4 (by kernel_rfl) laid (by kernel_rfl)
      (fun ds hd => by
        match ds, hd with
        | [], _ => rfl)
      (fun xs hx => by
        have hx' : All2 (ArgFits Try.prog 4) [] xs := hx
        clear hx
        obtain rfl := all2_nil hx'
        exact law_JournalNames)
theorem JournalNames_holds : Rows.JournalNamesSaid :=
  OpenClaim.holds_of_wide 4 Try.f4 rfl rfl rfl rfl rfl rfl rfl ⟨rfl, rfl, rfl, rfl, rfl⟩ rfl rfl rfl rfl rfl (by kernel_rfl) Try.func4 (by kernel_rfl)
    (of_decide_eq_true (by kernel_rfl)) (by unfold Func.isWrapper; first | (rw [if_pos (by decide +kernel)]; kernel_rfl) | (rw [if_neg (by decide +kernel)]; exact ⟨rfl, rfl⟩))
    (fun os started H enc _ => JournalNames_lifted os started H enc)
end Go.Proofs.Ytlfpafdkegnkoaa.Pm
namespace Go.Proofs.Ytlfpafdkegnkoaa
theorem JournalNames_proved : Rows.JournalNamesSaid := Pm.JournalNames_holds
#print axioms JournalNames_proved
end Go.Proofs.Ytlfpafdkegnkoaa
