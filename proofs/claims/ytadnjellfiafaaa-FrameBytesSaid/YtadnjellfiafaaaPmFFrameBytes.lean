/- frame: the statement FrameBytes: sizes and bytes are the reference's, for any record and any records. -/
import Derived.Test.YtadnjellfiafaaaPmFo
import Derived.Test.YtadnjellfiafaaaPmCh
set_option linter.all false
namespace Go.Proofs.Ytadnjellfiafaaa.Pm
open Go Go.RowKit Go.ChangeShapes Go.WideShapes Go.ChangeAt

theorem FrameBytes_lifted (os : Os) (started : os.Started) (H : Type) (enc : TypeId × Value → H) :
    ReturnsInHanded {} Try.checked os 9 .any (Rows.frameBytesSpec.pre6 enc Try.prog Try.f9 Rows.frameBytesRow.domain false) (Rows.frameBytesSpec.post enc Try.prog Try.f9 false true false false) :=
  law_of (C := Try.checked) (s := Rows.frameBytesSpec) (d := 4) H enc own started (by kernel_rfl) Try.func9
      (ChangeSpec.witness6 (enc := enc) (C := Try.checked) false ⟨#[], #[.agg #[.int .i64 0, .slice none 0 0], .slice none 0 0], []⟩ 8 (by kernel_rfl) (by kernel_rfl) (by kernel_rfl) (by kernel_rfl))
      rfl (tb := 4) (by kernel_rfl) Try.underlying4 (by kernel_rfl) laid (by kernel_rfl)
      (fun ds hd => by
        match ds, hd with
        | [a0, a1], _ => rfl)
      (fun xs hx => by
        have hx' : All2 (ArgFits Try.prog 4) [51, 40] xs := hx
        clear hx
        obtain ⟨_, _, rfl, h0, hx'⟩ := all2_cons hx'
        obtain ⟨_, _, rfl, h1, hx'⟩ := all2_cons hx'
        obtain rfl := all2_nil hx'
        obtain ⟨r0, rfl, _⟩ := arg_rec (d := 1) h0
        obtain ⟨l1, rfl, n1⟩ := arg_recs (d := 0) h1
        exact law_FrameBytes r0 l1 n1)
theorem FrameBytes_holds : Rows.FrameBytesSaid :=
  OpenClaim.holds_of_wide 9 Try.f9 rfl rfl rfl rfl rfl rfl rfl ⟨rfl, rfl, rfl, rfl, rfl⟩ rfl rfl rfl rfl rfl (by kernel_rfl) Try.func9 (by kernel_rfl)
    (of_decide_eq_true (by kernel_rfl)) (by unfold Func.isWrapper; first | (rw [if_pos (by decide +kernel)]; kernel_rfl) | (rw [if_neg (by decide +kernel)]; exact ⟨rfl, rfl⟩))
    (fun os started H enc _ => FrameBytes_lifted os started H enc)
end Go.Proofs.Ytadnjellfiafaaa.Pm
namespace Go.Proofs.Ytadnjellfiafaaa
theorem FrameBytes_proved : Rows.FrameBytesSaid := Pm.FrameBytes_holds
#print axioms FrameBytes_proved
end Go.Proofs.Ytadnjellfiafaaa
