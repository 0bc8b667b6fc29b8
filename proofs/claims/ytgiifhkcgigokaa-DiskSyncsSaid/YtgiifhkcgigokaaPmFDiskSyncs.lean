/- disk: the statement DiskSyncs: after a sync nothing is lost, for any device that is up and a number. -/
import Derived.Test.YtgiifhkcgigokaaPmGp
import Derived.Test.YtgiifhkcgigokaaPmMe
set_option linter.all false
namespace Go.Proofs.Ytgiifhkcgigokaa.Pm
open Go Go.RowKit Go.ChangeShapes Go.WideShapes Go.ChangeAt

theorem DiskSyncs_lifted (os : Os) (started : os.Started) (H : Type) (enc : TypeId × Value → H) :
    ReturnsInHanded {} Try.checked os 7 .any (Rows.diskSyncsSpec.pre6 enc Try.prog Try.f7 Rows.diskSyncsRow.domain false) (Rows.diskSyncsSpec.post enc Try.prog Try.f7 false true false false) :=
  law_of (C := Try.checked) (s := Rows.diskSyncsSpec) (d := 4) H enc own started (by kernel_rfl) Try.func7
      (ChangeSpec.witness6 (enc := enc) (C := Try.checked) false ⟨#[], #[.agg #[.slice none 0 0, .slice none 0 0, .int .i64 0, .bool false], .int .i64 0], []⟩ 8 (by kernel_rfl) (by kernel_rfl) (by kernel_rfl) (by kernel_rfl))
      rfl (tb := 4) (by kernel_rfl) Try.underlying4 (by kernel_rfl) laid (by kernel_rfl)
      (fun ds hd => by
        match ds, hd with
        | [a0, a1], _ => rfl)
      (fun xs hx => by
        have hx' : All2 (ArgFits Try.prog 4) [24, 3] xs := hx
        clear hx
        obtain ⟨_, _, rfl, h0, hx'⟩ := all2_cons hx'
        obtain ⟨_, _, rfl, h1, hx'⟩ := all2_cons hx'
        obtain rfl := all2_nil hx'
        obtain ⟨d0, rfl, s0, t0⟩ := arg_dev (d := 1) h0
        obtain ⟨i1, rfl, l1, u1⟩ := arg_i64 (d := 3) h1
        exact law_DiskSyncs d0 i1 l1 u1)
theorem DiskSyncs_holds : Rows.DiskSyncsSaid :=
  OpenClaim.holds_of_wide 7 Try.f7 rfl rfl rfl rfl rfl rfl rfl ⟨rfl, rfl, rfl, rfl, rfl⟩ rfl rfl rfl rfl rfl (by kernel_rfl) Try.func7 (by kernel_rfl)
    (of_decide_eq_true (by kernel_rfl)) (by unfold Func.isWrapper; first | (rw [if_pos (by decide +kernel)]; kernel_rfl) | (rw [if_neg (by decide +kernel)]; exact ⟨rfl, rfl⟩))
    (fun os started H enc _ => DiskSyncs_lifted os started H enc)
end Go.Proofs.Ytgiifhkcgigokaa.Pm
namespace Go.Proofs.Ytgiifhkcgigokaa
theorem DiskSyncs_proved : Rows.DiskSyncsSaid := Pm.DiskSyncs_holds
#print axioms DiskSyncs_proved
end Go.Proofs.Ytgiifhkcgigokaa
