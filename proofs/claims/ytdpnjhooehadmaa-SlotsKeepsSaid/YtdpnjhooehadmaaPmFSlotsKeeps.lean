/- slots: the statement SlotsKeeps: what was saved, and the checkpoint before it, for any slots and two lists of bytes. -/
import Derived.Test.YtdpnjhooehadmaaPmSl
import Derived.Test.YtdpnjhooehadmaaPmMu
set_option linter.all false
set_option maxRecDepth 100000
namespace Go.Proofs.Ytdpnjhooehadmaa.Pm
open Go Go.RowKit Go.ChangeShapes Go.WideShapes Go.ChangeAt

theorem SlotsKeeps_lifted (os : Os) (started : os.Started) (H : Type) (enc : TypeId × Value → H) :
    ReturnsInHanded {} Try.checked os 10 .any (Rows.slotsKeepsSpec.pre6 enc Try.prog Try.f10 Rows.slotsKeepsRow.domain false) (Rows.slotsKeepsSpec.post enc Try.prog Try.f10 false true false false) :=
  law_of (C := Try.checked) (s := Rows.slotsKeepsSpec) (d := 5) H enc own started (by kernel_rfl) Try.func10
      (ChangeSpec.witness6 (enc := enc) (C := Try.checked) false ⟨#[], #[.agg #[.slice none 0 0, .slice none 0 0, .int .i64 0, .bool false, .slice none 0 0, .slice none 0 0, .int .i64 0, .bool false, .int .i64 0], .slice none 0 0, .slice none 0 0], []⟩ 8 (by kernel_rfl) (by kernel_rfl) (by kernel_rfl) (by kernel_rfl))
      rfl (tb := 4) (by kernel_rfl) Try.underlying4 (by kernel_rfl) laid (by kernel_rfl)
      (fun ds hd => by
        match ds, hd with
        | [a0, a1, a2], _ => rfl)
      (fun xs hx => by
        have hx' : All2 (ArgFits Try.prog 5) [43, 22, 22] xs := hx
        clear hx
        obtain ⟨_, _, rfl, h0, hx'⟩ := all2_cons hx'
        obtain ⟨_, _, rfl, h1, hx'⟩ := all2_cons hx'
        obtain ⟨_, _, rfl, h2, hx'⟩ := all2_cons hx'
        obtain rfl := all2_nil hx'
        obtain ⟨s0, rfl, na0, nb0⟩ := arg_slots (d := 0) h0
        obtain ⟨b1, rfl, n1⟩ := arg_bs (d := 2) h1
        obtain ⟨b2, rfl, n2⟩ := arg_bs (d := 2) h2
        exact law_SlotsKeeps s0 b1 b2 na0 nb0)
theorem SlotsKeeps_holds : Rows.SlotsKeepsSaid :=
  OpenClaim.holds_of_wide 10 Try.f10 rfl rfl rfl rfl rfl rfl rfl ⟨rfl, rfl, rfl, rfl, rfl⟩ rfl rfl rfl rfl rfl (by kernel_rfl) Try.func10 (by kernel_rfl)
    (of_decide_eq_true (by kernel_rfl)) (by unfold Func.isWrapper; first | (rw [if_pos (by decide +kernel)]; kernel_rfl) | (rw [if_neg (by decide +kernel)]; exact ⟨rfl, rfl⟩))
    (fun os started H enc _ => SlotsKeeps_lifted os started H enc)
end Go.Proofs.Ytdpnjhooehadmaa.Pm
namespace Go.Proofs.Ytdpnjhooehadmaa
theorem SlotsKeeps_proved : Rows.SlotsKeepsSaid := Pm.SlotsKeeps_holds
#print axioms SlotsKeeps_proved
end Go.Proofs.Ytdpnjhooehadmaa
