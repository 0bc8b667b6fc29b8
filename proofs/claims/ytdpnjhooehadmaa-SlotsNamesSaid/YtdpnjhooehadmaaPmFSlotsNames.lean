/- slots: the statement SlotsNames: the examples, limits, wrong slots, errors. -/
import Derived.Test.YtdpnjhooehadmaaPmSn
import Derived.Test.YtdpnjhooehadmaaPmMu
set_option linter.all false
set_option maxRecDepth 100000
namespace Go.Proofs.Ytdpnjhooehadmaa.Pm
open Go Go.RowKit Go.ChangeShapes Go.WideShapes Go.ChangeAt

theorem SlotsNames_lifted (os : Os) (started : os.Started) (H : Type) (enc : TypeId × Value → H) :
    ReturnsInHanded {} Try.checked os 8 .any (Rows.slotsNamesSpec.pre6 enc Try.prog Try.f8 Rows.slotsNamesRow.domain false) (Rows.slotsNamesSpec.post enc Try.prog Try.f8 false true false false) :=
  law_of (C := Try.checked) (s := Rows.slotsNamesSpec) (d := 5) H enc own started (by kernel_rfl) Try.func8
      (ChangeSpec.witness6 (enc := enc) (C := Try.checked) false ⟨#[], #[], []⟩ 8 (by kernel_rfl) (by kernel_rfl) (by kernel_rfl) (by kernel_rfl))
      rfl (tb := 4) (by kernel_rfl) Try.underlying4 (by kernel_rfl) laid (by kernel_rfl)
      (fun ds hd => by
        match ds, hd with
        | [], _ => rfl)
      (fun xs hx => by
        have hx' : All2 (ArgFits Try.prog 5) [] xs := hx
        clear hx
        obtain rfl := all2_nil hx'
        exact law_SlotsNames)
theorem SlotsNames_holds : Rows.SlotsNamesSaid :=
  OpenClaim.holds_of_wide 8 Try.f8 rfl rfl rfl rfl rfl rfl rfl ⟨rfl, rfl, rfl, rfl, rfl⟩ rfl rfl rfl rfl rfl (by kernel_rfl) Try.func8 (by kernel_rfl)
    (of_decide_eq_true (by kernel_rfl)) (by unfold Func.isWrapper; first | (rw [if_pos (by decide +kernel)]; kernel_rfl) | (rw [if_neg (by decide +kernel)]; exact ⟨rfl, rfl⟩))
    (fun os started H enc _ => SlotsNames_lifted os started H enc)
end Go.Proofs.Ytdpnjhooehadmaa.Pm
namespace Go.Proofs.Ytdpnjhooehadmaa
theorem SlotsNames_proved : Rows.SlotsNamesSaid := Pm.SlotsNames_holds
#print axioms SlotsNames_proved
end Go.Proofs.Ytdpnjhooehadmaa
