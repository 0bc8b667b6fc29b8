/- frame: the statement FrameFlips: a changed byte of a record ends the scan before it, for any records, an index, a place and a change. -/
import Derived.Test.YtadnjellfiafaaaPmFy
import Derived.Test.YtadnjellfiafaaaPmMf
set_option linter.all false
namespace Go.Proofs.Ytadnjellfiafaaa.Pm
open Go Go.RowKit Go.ChangeShapes Go.WideShapes Go.ChangeAt

theorem FrameFlips_lifted (os : Os) (started : os.Started) (H : Type) (enc : TypeId × Value → H) :
    ReturnsInHanded {} Try.checked os 12 .any (Rows.frameFlipsSpec.pre6 enc Try.prog Try.f12 Rows.frameFlipsRow.domain false) (Rows.frameFlipsSpec.post enc Try.prog Try.f12 false true false false) :=
  law_of (C := Try.checked) (s := Rows.frameFlipsSpec) (d := 4) H enc own started (by kernel_rfl) Try.func12
      (ChangeSpec.witness6 (enc := enc) (C := Try.checked) false ⟨#[], #[.slice none 0 0, .int .i64 0, .int .i64 0, .int .u8 0], []⟩ 8 (by kernel_rfl) (by kernel_rfl) (by kernel_rfl) (by kernel_rfl))
      rfl (tb := 4) (by kernel_rfl) Try.underlying4 (by kernel_rfl) laid (by kernel_rfl)
      (fun ds hd => by
        match ds, hd with
        | [a0, a1, a2, a3], _ => rfl)
      (fun xs hx => by
        have hx' : All2 (ArgFits Try.prog 4) [40, 3, 3, 5] xs := hx
        clear hx
        obtain ⟨_, _, rfl, h0, hx'⟩ := all2_cons hx'
        obtain ⟨_, _, rfl, h1, hx'⟩ := all2_cons hx'
        obtain ⟨_, _, rfl, h2, hx'⟩ := all2_cons hx'
        obtain ⟨_, _, rfl, h3, hx'⟩ := all2_cons hx'
        obtain rfl := all2_nil hx'
        obtain ⟨l0, rfl, n0⟩ := arg_recs (d := 0) h0
        obtain ⟨i1, rfl, l1, u1⟩ := arg_i64 (d := 3) h1
        obtain ⟨i2, rfl, l2, u2⟩ := arg_i64 (d := 3) h2
        obtain ⟨c3, rfl⟩ := arg_u8 (d := 3) h3
        exact law_FrameFlips l0 i1 i2 c3 n0 l1 u1 l2 u2)
theorem FrameFlips_holds : Rows.FrameFlipsSaid :=
  OpenClaim.holds_of_wide 12 Try.f12 rfl rfl rfl rfl rfl rfl rfl ⟨rfl, rfl, rfl, rfl, rfl⟩ rfl rfl rfl rfl rfl (by kernel_rfl) Try.func12 (by kernel_rfl)
    (of_decide_eq_true (by kernel_rfl)) (by unfold Func.isWrapper; first | (rw [if_pos (by decide +kernel)]; kernel_rfl) | (rw [if_neg (by decide +kernel)]; exact ⟨rfl, rfl⟩))
    (fun os started H enc _ => FrameFlips_lifted os started H enc)
end Go.Proofs.Ytadnjellfiafaaa.Pm
namespace Go.Proofs.Ytadnjellfiafaaa
theorem FrameFlips_proved : Rows.FrameFlipsSaid := Pm.FrameFlips_holds
#print axioms FrameFlips_proved
end Go.Proofs.Ytadnjellfiafaaa
