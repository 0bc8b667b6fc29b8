/- slots: the statement SlotsSurvive: a checkpoint survives any crash, for any slots, bytes, steps and number of bytes. -/
import Derived.Test.YtdpnjhooehadmaaPmSk
import Derived.Test.YtdpnjhooehadmaaPmMu
set_option linter.all false
set_option maxRecDepth 100000
namespace Go.Proofs.Ytdpnjhooehadmaa.Pm
open Go Go.RowKit Go.ChangeShapes Go.WideShapes Go.ChangeAt

theorem SlotsSurvive_lifted (os : Os) (started : os.Started) (H : Type) (enc : TypeId × Value → H) :
    ReturnsInHanded {} Try.checked os 9 .any (Rows.slotsSurviveSpec.pre6 enc Try.prog Try.f9 Rows.slotsSurviveRow.domain false) (Rows.slotsSurviveSpec.post enc Try.prog Try.f9 false true false false) :=
  law_of (C := Try.checked) (s := Rows.slotsSurviveSpec) (d := 5) H enc own started (by kernel_rfl) Try.func9
      (ChangeSpec.witness6 (enc := enc) (C := Try.checked) false ⟨#[], #[.agg #[.slice none 0 0, .slice none 0 0, .int .i64 0, .bool false, .slice none 0 0, .slice none 0 0, .int .i64 0, .bool false, .int .i64 0], .slice none 0 0, .int .i64 0, .int .i64 0], []⟩ 8 (by kernel_rfl) (by kernel_rfl) (by kernel_rfl) (by kernel_rfl))
      rfl (tb := 4) (by kernel_rfl) Try.underlying4 (by kernel_rfl) laid (by kernel_rfl)
      (fun ds hd => by
        match ds, hd with
        | [a0, a1, a2, a3], _ => rfl)
      (fun xs hx => by
        have hx' : All2 (ArgFits Try.prog 5) [43, 22, 3, 3] xs := hx
        clear hx
        obtain ⟨_, _, rfl, h0, hx'⟩ := all2_cons hx'
        obtain ⟨_, _, rfl, h1, hx'⟩ := all2_cons hx'
        obtain ⟨_, _, rfl, h2, hx'⟩ := all2_cons hx'
        obtain ⟨_, _, rfl, h3, hx'⟩ := all2_cons hx'
        obtain rfl := all2_nil hx'
        obtain ⟨s0, rfl, na0, nb0⟩ := arg_slots (d := 0) h0
        obtain ⟨b1, rfl, n1⟩ := arg_bs (d := 2) h1
        obtain ⟨i2, rfl, l2, u2⟩ := arg_i64 (d := 3) h2
        obtain ⟨i3, rfl, l3, u3⟩ := arg_i64 (d := 3) h3
        exact law_SlotsSurvive s0 b1 i2 i3 na0 nb0 l2 (by omega) l3 (by omega))
theorem SlotsSurvive_holds : Rows.SlotsSurviveSaid :=
  OpenClaim.holds_of_wide 9 Try.f9 rfl rfl rfl rfl rfl rfl rfl ⟨rfl, rfl, rfl, rfl, rfl⟩ rfl rfl rfl rfl rfl (by kernel_rfl) Try.func9 (by kernel_rfl)
    (of_decide_eq_true (by kernel_rfl)) (by unfold Func.isWrapper; first | (rw [if_pos (by decide +kernel)]; kernel_rfl) | (rw [if_neg (by decide +kernel)]; exact ⟨rfl, rfl⟩))
    (fun os started H enc _ => SlotsSurvive_lifted os started H enc)
end Go.Proofs.Ytdpnjhooehadmaa.Pm
namespace Go.Proofs.Ytdpnjhooehadmaa
theorem SlotsSurvive_proved : Rows.SlotsSurviveSaid := Pm.SlotsSurvive_holds
#print axioms SlotsSurvive_proved
end Go.Proofs.Ytdpnjhooehadmaa
