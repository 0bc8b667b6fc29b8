/- slots: the statement SlotsRow: checkpoints one after the other, for any capacity and lists of bytes. -/
import Derived.Test.YtdpnjhooehadmaaPmSm
import Derived.Test.YtdpnjhooehadmaaPmSz
set_option linter.all false
set_option maxRecDepth 100000
namespace Go.Proofs.Ytdpnjhooehadmaa.Pm
open Go Go.RowKit Go.ChangeShapes Go.WideShapes Go.ChangeAt

theorem SlotsRow_lifted (os : Os) (started : os.Started) (H : Type) (enc : TypeId × Value → H) :
    ReturnsInHanded {} Try.checked os 11 .any (Rows.slotsRowSpec.pre6 enc Try.prog Try.f11 Rows.slotsRowRow.domain false) (Rows.slotsRowSpec.post enc Try.prog Try.f11 false true false false) :=
  law_of (C := Try.checked) (s := Rows.slotsRowSpec) (d := 5) H enc own started (by kernel_rfl) Try.func11
      (ChangeSpec.witness6 (enc := enc) (C := Try.checked) false ⟨#[], #[.int .i64 0, .slice none 0 0], []⟩ 8 (by kernel_rfl) (by kernel_rfl) (by kernel_rfl) (by kernel_rfl))
      rfl (tb := 4) (by kernel_rfl) Try.underlying4 (by kernel_rfl) laid (by kernel_rfl)
      (fun ds hd => by
        match ds, hd with
        | [a0, a1], _ => rfl)
      (fun xs hx => by
        have hx' : All2 (ArgFits Try.prog 5) [3, 94] xs := hx
        clear hx
        obtain ⟨_, _, rfl, h0, hx'⟩ := all2_cons hx'
        obtain ⟨_, _, rfl, h1, hx'⟩ := all2_cons hx'
        obtain rfl := all2_nil hx'
        obtain ⟨i0, rfl, l0, u0⟩ := arg_i64 (d := 3) h0
        obtain ⟨i1, rfl, r1⟩ := arg_rows (d := 2) h1
        exact law_SlotsRow i0 i1 l0 u0 r1)
theorem SlotsRow_holds : Rows.SlotsRowSaid :=
  OpenClaim.holds_of_wide 11 Try.f11 rfl rfl rfl rfl rfl rfl rfl ⟨rfl, rfl, rfl, rfl, rfl⟩ rfl rfl rfl rfl rfl (by kernel_rfl) Try.func11 (by kernel_rfl)
    (of_decide_eq_true (by kernel_rfl)) (by unfold Func.isWrapper; first | (rw [if_pos (by decide +kernel)]; kernel_rfl) | (rw [if_neg (by decide +kernel)]; exact ⟨rfl, rfl⟩))
    (fun os started H enc _ => SlotsRow_lifted os started H enc)
end Go.Proofs.Ytdpnjhooehadmaa.Pm
namespace Go.Proofs.Ytdpnjhooehadmaa
theorem SlotsRow_proved : Rows.SlotsRowSaid := Pm.SlotsRow_holds
#print axioms SlotsRow_proved
end Go.Proofs.Ytdpnjhooehadmaa
