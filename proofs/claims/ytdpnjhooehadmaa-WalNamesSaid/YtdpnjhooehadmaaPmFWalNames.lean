/- wal: the statement WalNames: the examples, limits, full devices, errors. -/
import Derived.Test.YtdpnjhooehadmaaPmWm
import Derived.Test.YtdpnjhooehadmaaPmMh
set_option linter.all false
set_option maxRecDepth 100000
namespace Go.Proofs.Ytdpnjhooehadmaa.Pm
open Go Go.RowKit Go.ChangeShapes Go.WideShapes Go.ChangeAt

theorem WalNames_lifted (os : Os) (started : os.Started) (H : Type) (enc : TypeId × Value → H) :
    ReturnsInHanded {} Try.checked os 14 .any (Rows.walNamesSpec.pre6 enc Try.prog Try.f14 Rows.walNamesRow.domain false) (Rows.walNamesSpec.post enc Try.prog Try.f14 false true false false) :=
  law_of (C := Try.checked) (s := Rows.walNamesSpec) (d := 4) H enc own started (by kernel_rfl) Try.func14
      (ChangeSpec.witness6 (enc := enc) (C := Try.checked) false ⟨#[], #[], []⟩ 8 (by kernel_rfl) (by kernel_rfl) (by kernel_rfl) (by kernel_rfl))
      rfl (tb := 4) (by kernel_rfl) Try.underlying4 (by kernel_rfl) laid (by kernel_rfl)
      (fun ds hd => by
        match ds, hd with
        | [], _ => rfl)
      (fun xs hx => by
        have hx' : All2 (ArgFits Try.prog 4) [] xs := hx
        clear hx
        obtain rfl := all2_nil hx'
        exact law_WalNames)
theorem WalNames_holds : Rows.WalNamesSaid :=
  OpenClaim.holds_of_wide 14 Try.f14 rfl rfl rfl rfl rfl rfl rfl ⟨rfl, rfl, rfl, rfl, rfl⟩ rfl rfl rfl rfl rfl (by kernel_rfl) Try.func14 (by kernel_rfl)
    (of_decide_eq_true (by kernel_rfl)) (by unfold Func.isWrapper; first | (rw [if_pos (by decide +kernel)]; kernel_rfl) | (rw [if_neg (by decide +kernel)]; exact ⟨rfl, rfl⟩))
    (fun os started H enc _ => WalNames_lifted os started H enc)
end Go.Proofs.Ytdpnjhooehadmaa.Pm
namespace Go.Proofs.Ytdpnjhooehadmaa
theorem WalNames_proved : Rows.WalNamesSaid := Pm.WalNames_holds
#print axioms WalNames_proved
end Go.Proofs.Ytdpnjhooehadmaa
