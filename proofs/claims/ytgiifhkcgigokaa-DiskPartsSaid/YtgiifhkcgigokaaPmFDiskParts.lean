/- disk: the statement DiskParts: a script in two parts is the script in one, for any device, script and index. -/
import Derived.Test.YtgiifhkcgigokaaPmGq
import Derived.Test.YtgiifhkcgigokaaPmMe
set_option linter.all false
namespace Go.Proofs.Ytgiifhkcgigokaa.Pm
open Go Go.RowKit Go.ChangeShapes Go.WideShapes Go.ChangeAt

theorem DiskParts_lifted (os : Os) (started : os.Started) (H : Type) (enc : TypeId × Value → H) :
    ReturnsInHanded {} Try.checked os 8 .any (Rows.diskPartsSpec.pre6 enc Try.prog Try.f8 Rows.diskPartsRow.domain false) (Rows.diskPartsSpec.post enc Try.prog Try.f8 false true false false) :=
  law_of (C := Try.checked) (s := Rows.diskPartsSpec) (d := 4) H enc own started (by kernel_rfl) Try.func8
      (ChangeSpec.witness6 (enc := enc) (C := Try.checked) false ⟨#[], #[.agg #[.slice none 0 0, .slice none 0 0, .int .i64 0, .bool false], .slice none 0 0, .int .i64 0], []⟩ 8 (by kernel_rfl) (by kernel_rfl) (by kernel_rfl) (by kernel_rfl))
      rfl (tb := 4) (by kernel_rfl) Try.underlying4 (by kernel_rfl) laid (by kernel_rfl)
      (fun ds hd => by
        match ds, hd with
        | [a0, a1, a2], _ => rfl)
      (fun xs hx => by
        have hx' : All2 (ArgFits Try.prog 4) [24, 52, 3] xs := hx
        clear hx
        obtain ⟨_, _, rfl, h0, hx'⟩ := all2_cons hx'
        obtain ⟨_, _, rfl, h1, hx'⟩ := all2_cons hx'
        obtain ⟨_, _, rfl, h2, hx'⟩ := all2_cons hx'
        obtain rfl := all2_nil hx'
        obtain ⟨d0, rfl, s0, t0⟩ := arg_dev (d := 1) h0
        obtain ⟨o1, rfl, n1, r1⟩ := arg_ops (d := 0) h1
        obtain ⟨i2, rfl, l2, u2⟩ := arg_i64 (d := 3) h2
        exact law_DiskParts d0 o1 i2 n1 r1 l2 u2)
theorem DiskParts_holds : Rows.DiskPartsSaid :=
  OpenClaim.holds_of_wide 8 Try.f8 rfl rfl rfl rfl rfl rfl rfl ⟨rfl, rfl, rfl, rfl, rfl⟩ rfl rfl rfl rfl rfl (by kernel_rfl) Try.func8 (by kernel_rfl)
    (of_decide_eq_true (by kernel_rfl)) (by unfold Func.isWrapper; first | (rw [if_pos (by decide +kernel)]; kernel_rfl) | (rw [if_neg (by decide +kernel)]; exact ⟨rfl, rfl⟩))
    (fun os started H enc _ => DiskParts_lifted os started H enc)
end Go.Proofs.Ytgiifhkcgigokaa.Pm
namespace Go.Proofs.Ytgiifhkcgigokaa
theorem DiskParts_proved : Rows.DiskPartsSaid := Pm.DiskParts_holds
#print axioms DiskParts_proved
end Go.Proofs.Ytgiifhkcgigokaa
