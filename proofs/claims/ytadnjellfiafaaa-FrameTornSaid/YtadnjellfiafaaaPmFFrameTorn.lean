/- frame: the statement FrameTorn: a scan of the first bytes of records finds those that are there as a whole, for any records, a number and bytes behind. -/
import Derived.Test.YtadnjellfiafaaaPmFr
import Derived.Test.YtadnjellfiafaaaPmMf
set_option linter.all false
namespace Go.Proofs.Ytadnjellfiafaaa.Pm
open Go Go.RowKit Go.ChangeShapes Go.WideShapes Go.ChangeAt

theorem FrameTorn_lifted (os : Os) (started : os.Started) (H : Type) (enc : TypeId × Value → H) :
    ReturnsInHanded {} Try.checked os 10 .any (Rows.frameTornSpec.pre6 enc Try.prog Try.f10 Rows.frameTornRow.domain false) (Rows.frameTornSpec.post enc Try.prog Try.f10 false true false false) :=
  law_of (C := Try.checked) (s := Rows.frameTornSpec) (d := 4) H enc own started (by kernel_rfl) Try.func10
      (ChangeSpec.witness6 (enc := enc) (C := Try.checked) false ⟨#[], #[.slice none 0 0, .int .i64 0, .slice none 0 0], []⟩ 8 (by kernel_rfl) (by kernel_rfl) (by kernel_rfl) (by kernel_rfl))
      rfl (tb := 4) (by kernel_rfl) Try.underlying4 (by kernel_rfl) laid (by kernel_rfl)
      (fun ds hd => by
        match ds, hd with
        | [a0, a1, a2], _ => rfl)
      (fun xs hx => by
        have hx' : All2 (ArgFits Try.prog 4) [40, 3, 22] xs := hx
        clear hx
        obtain ⟨_, _, rfl, h0, hx'⟩ := all2_cons hx'
        obtain ⟨_, _, rfl, h1, hx'⟩ := all2_cons hx'
        obtain ⟨_, _, rfl, h2, hx'⟩ := all2_cons hx'
        obtain rfl := all2_nil hx'
        obtain ⟨l0, rfl, n0⟩ := arg_recs (d := 0) h0
        obtain ⟨i1, rfl, l1, u1⟩ := arg_i64 (d := 3) h1
        obtain ⟨b2, rfl, n2⟩ := arg_bs (d := 2) h2
        exact law_FrameTorn l0 i1 b2 n0 l1 u1)
theorem FrameTorn_holds : Rows.FrameTornSaid :=
  OpenClaim.holds_of_wide 10 Try.f10 rfl rfl rfl rfl rfl rfl rfl ⟨rfl, rfl, rfl, rfl, rfl⟩ rfl rfl rfl rfl rfl (by kernel_rfl) Try.func10 (by kernel_rfl)
    (of_decide_eq_true (by kernel_rfl)) (by unfold Func.isWrapper; first | (rw [if_pos (by decide +kernel)]; kernel_rfl) | (rw [if_neg (by decide +kernel)]; exact ⟨rfl, rfl⟩))
    (fun os started H enc _ => FrameTorn_lifted os started H enc)
end Go.Proofs.Ytadnjellfiafaaa.Pm
namespace Go.Proofs.Ytadnjellfiafaaa
theorem FrameTorn_proved : Rows.FrameTornSaid := Pm.FrameTorn_holds
#print axioms FrameTorn_proved
end Go.Proofs.Ytadnjellfiafaaa
