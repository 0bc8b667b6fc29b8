/- slots: the statement SlotsLoads: Load and Open are the reference's, for any slots, and share no memory with them. -/
import Derived.Test.YtdpnjhooehadmaaPmSh
import Derived.Test.YtdpnjhooehadmaaPmMu
set_option linter.all false
set_option maxRecDepth 100000
namespace Go.Proofs.Ytdpnjhooehadmaa.Pm
open Go Go.RowKit Go.ChangeShapes Go.WideShapes Go.ChangeAt

theorem SlotsLoads_lifted (os : Os) (started : os.Started) (H : Type) (enc : TypeId × Value → H) :
    ReturnsInHanded {} Try.checked os 4 .any (Rows.slotsLoadsSpec.pre6 enc Try.prog Try.f4 Rows.slotsLoadsRow.domain false) (Rows.slotsLoadsSpec.post enc Try.prog Try.f4 false true false false) :=
  law_of (C := Try.checked) (s := Rows.slotsLoadsSpec) (d := 5) H enc own started (by kernel_rfl) Try.func4
      (ChangeSpec.witness6 (enc := enc) (C := Try.checked) false ⟨#[], #[.agg #[.slice none 0 0, .slice none 0 0, .int .i64 0, .bool false, .slice none 0 0, .slice none 0 0, .int .i64 0, .bool false, .int .i64 0]], []⟩ 8 (by kernel_rfl) (by kernel_rfl) (by kernel_rfl) (by kernel_rfl))
      rfl (tb := 4) (by kernel_rfl) Try.underlying4 (by kernel_rfl) laid (by kernel_rfl)
      (fun ds hd => by
        match ds, hd with
        | [a0], _ => rfl)
      (fun xs hx => by
        have hx' : All2 (ArgFits Try.prog 5) [43] xs := hx
        clear hx
        obtain ⟨_, _, rfl, h0, hx'⟩ := all2_cons hx'
        obtain rfl := all2_nil hx'
        obtain ⟨s0, rfl, na0, nb0⟩ := arg_slots (d := 0) h0
        exact law_SlotsLoads s0 na0 nb0)
theorem SlotsLoads_holds : Rows.SlotsLoadsSaid :=
  OpenClaim.holds_of_wide 4 Try.f4 rfl rfl rfl rfl rfl rfl rfl ⟨rfl, rfl, rfl, rfl, rfl⟩ rfl rfl rfl rfl rfl (by kernel_rfl) Try.func4 (by kernel_rfl)
    (of_decide_eq_true (by kernel_rfl)) (by unfold Func.isWrapper; first | (rw [if_pos (by decide +kernel)]; kernel_rfl) | (rw [if_neg (by decide +kernel)]; exact ⟨rfl, rfl⟩))
    (fun os started H enc _ => SlotsLoads_lifted os started H enc)
end Go.Proofs.Ytdpnjhooehadmaa.Pm
namespace Go.Proofs.Ytdpnjhooehadmaa
theorem SlotsLoads_proved : Rows.SlotsLoadsSaid := Pm.SlotsLoads_holds
#print axioms SlotsLoads_proved
end Go.Proofs.Ytdpnjhooehadmaa
