/- the statement TopDevice: a journal is what its device, its log and its slots say, over any crash; for any operations and number of bytes. -/
import Derived.Test.YtlfpafdkegnkoaaPmOf
import Derived.Test.YtlfpafdkegnkoaaPmMp
set_option linter.all false
set_option maxRecDepth 100000
namespace Go.Proofs.Ytlfpafdkegnkoaa.Pm
open Go Go.RowKit Go.ChangeShapes Go.WideShapes Go.ChangeAt

theorem TopDevice_lifted (os : Os) (started : os.Started) (H : Type) (enc : TypeId × Value → H) :
    ReturnsInHanded {} Try.checked os 3 .any (Rows.topDeviceSpec.pre6 enc Try.prog Try.f3 Rows.topDeviceRow.domain false) (Rows.topDeviceSpec.post enc Try.prog Try.f3 false true false false) :=
  law_of (C := Try.checked) (s := Rows.topDeviceSpec) (d := 6) H enc own started (by kernel_rfl) Try.func3
      (ChangeSpec.witness6 (enc := enc) (C := Try.checked) false ⟨#[], #[.slice none 0 0, .int .i64 0], []⟩ 8 (by kernel_rfl) (by kernel_rfl) (by kernel_rfl) (by kernel_rfl))
      rfl (tb := 4) (by kernel_rfl) Try.underlying4 (by kernel_rfl) laid (by kernel_rfl)
      (fun ds hd => by
        match ds, hd with
        | [a0, a1], _ => rfl)
      (fun xs hx => by
        have hx' : All2 (ArgFits Try.prog 6) [22, 3] xs := hx
        clear hx
        obtain ⟨_, _, rfl, h0, hx'⟩ := all2_cons hx'
        obtain ⟨_, _, rfl, h1, hx'⟩ := all2_cons hx'
        obtain rfl := all2_nil hx'
        obtain ⟨l0, rfl, la0, lb0⟩ := arg_mvs (d := 3) h0
        obtain ⟨i1, rfl, lo1, hi1⟩ := arg_i64 (d := 5) h1
        exact law_TopDevice l0 la0 lb0 i1 lo1 (by omega))
theorem TopDevice_holds : Rows.TopDeviceSaid :=
  OpenClaim.holds_of_wide 3 Try.f3 rfl rfl rfl rfl rfl rfl rfl ⟨rfl, rfl, rfl, rfl, rfl⟩ rfl rfl rfl rfl rfl (by kernel_rfl) Try.func3 (by kernel_rfl)
    (of_decide_eq_true (by kernel_rfl)) (by unfold Func.isWrapper; first | (rw [if_pos (by decide +kernel)]; kernel_rfl) | (rw [if_neg (by decide +kernel)]; exact ⟨rfl, rfl⟩))
    (fun os started H enc _ => TopDevice_lifted os started H enc)
end Go.Proofs.Ytlfpafdkegnkoaa.Pm
namespace Go.Proofs.Ytlfpafdkegnkoaa
theorem TopDevice_proved : Rows.TopDeviceSaid := Pm.TopDevice_holds
#print axioms TopDevice_proved
end Go.Proofs.Ytlfpafdkegnkoaa
