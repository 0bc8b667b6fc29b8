/- disk: the statement DiskNames: the examples, limits, devices that are down and errors. -/
import Derived.Test.YtgiifhkcgigokaaPmGr
import Derived.Test.YtgiifhkcgigokaaPmMe
set_option linter.all false
namespace Go.Proofs.Ytgiifhkcgigokaa.Pm
open Go Go.RowKit Go.ChangeShapes Go.WideShapes Go.ChangeAt

theorem DiskNames_lifted (os : Os) (started : os.Started) (H : Type) (enc : TypeId × Value → H) :
    ReturnsInHanded {} Try.checked os 9 .any (Rows.diskNamesSpec.pre6 enc Try.prog Try.f9 Rows.diskNamesRow.domain false) (Rows.diskNamesSpec.post enc Try.prog Try.f9 false true false false) :=
  law_of (C := Try.checked) (s := Rows.diskNamesSpec) (d := 4) H enc own started (by kernel_rfl) Try.func9
      (ChangeSpec.witness6 (enc := enc) (C := Try.checked) false ⟨#[], #[], []⟩ 8 (by kernel_rfl) (by kernel_rfl) (by kernel_rfl) (by kernel_rfl))
      rfl (tb := 4) (by kernel_rfl) Try.underlying4 (by kernel_rfl) laid (by kernel_rfl)
      (fun ds hd => by
        match ds, hd with
        | [], _ => rfl)
      (fun xs hx => by
        have hx' : All2 (ArgFits Try.prog 4) [] xs := hx
        clear hx
        obtain rfl := all2_nil hx'
        exact law_DiskNames)
theorem DiskNames_holds : Rows.DiskNamesSaid :=
  OpenClaim.holds_of_wide 9 Try.f9 rfl rfl rfl rfl rfl rfl rfl ⟨rfl, rfl, rfl, rfl, rfl⟩ rfl rfl rfl rfl rfl (by kernel_rfl) Try.func9 (by kernel_rfl)
    (of_decide_eq_true (by kernel_rfl)) (by unfold Func.isWrapper; first | (rw [if_pos (by decide +kernel)]; kernel_rfl) | (rw [if_neg (by decide +kernel)]; exact ⟨rfl, rfl⟩))
    (fun os started H enc _ => DiskNames_lifted os started H enc)
end Go.Proofs.Ytgiifhkcgigokaa.Pm
namespace Go.Proofs.Ytgiifhkcgigokaa
theorem DiskNames_proved : Rows.DiskNamesSaid := Pm.DiskNames_holds
#print axioms DiskNames_proved
end Go.Proofs.Ytgiifhkcgigokaa
