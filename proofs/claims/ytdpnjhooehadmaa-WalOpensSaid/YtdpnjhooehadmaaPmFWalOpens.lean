/- wal: the statement WalOpens: Check, Open and Crash are the reference's, for any log, device and numbers. -/
import Derived.Test.YtdpnjhooehadmaaPmWo
import Derived.Test.YtdpnjhooehadmaaPmMh
set_option linter.all false
set_option maxRecDepth 100000
namespace Go.Proofs.Ytdpnjhooehadmaa.Pm
open Go Go.RowKit Go.ChangeShapes Go.WideShapes Go.ChangeAt

theorem WalOpens_lifted (os : Os) (started : os.Started) (H : Type) (enc : TypeId × Value → H) :
    ReturnsInHanded {} Try.checked os 5 .any (Rows.walOpensSpec.pre6 enc Try.prog Try.f5 Rows.walOpensRow.domain false) (Rows.walOpensSpec.post enc Try.prog Try.f5 false true false false) :=
  law_of (C := Try.checked) (s := Rows.walOpensSpec) (d := 4) H enc own started (by kernel_rfl) Try.func5
      (ChangeSpec.witness6 (enc := enc) (C := Try.checked) false ⟨#[], #[.agg #[.slice none 0 0, .slice none 0 0, .int .i64 0, .bool false, .int .i64 0, .int .i64 0], .agg #[.slice none 0 0, .slice none 0 0, .int .i64 0, .bool false], .int .i64 0, .int .i64 0], []⟩ 8 (by kernel_rfl) (by kernel_rfl) (by kernel_rfl) (by kernel_rfl))
      rfl (tb := 4) (by kernel_rfl) Try.underlying4 (by kernel_rfl) laid (by kernel_rfl)
      (fun ds hd => by
        match ds, hd with
        | [a0, a1, a2, a3], _ => rfl)
      (fun xs hx => by
        have hx' : All2 (ArgFits Try.prog 4) [26, 24, 3, 3] xs := hx
        clear hx
        obtain ⟨_, _, rfl, h0, hx'⟩ := all2_cons hx'
        obtain ⟨_, _, rfl, h1, hx'⟩ := all2_cons hx'
        obtain ⟨_, _, rfl, h2, hx'⟩ := all2_cons hx'
        obtain ⟨_, _, rfl, h3, hx'⟩ := all2_cons hx'
        obtain rfl := all2_nil hx'
        obtain ⟨l0, rfl, fa0, fb0, na0, nb0⟩ := arg_log (d := 0) h0
        obtain ⟨d1, rfl, s1, t1⟩ := arg_dev (d := 1) h1
        obtain ⟨i2, rfl, l2, u2⟩ := arg_i64 (d := 3) h2
        obtain ⟨i3, rfl, l3, u3⟩ := arg_i64 (d := 3) h3
        exact law_WalOpens l0 d1 i2 i3 fa0 fb0 na0 nb0 l2 u2 l3 (by omega))
theorem WalOpens_holds : Rows.WalOpensSaid :=
  OpenClaim.holds_of_wide 5 Try.f5 rfl rfl rfl rfl rfl rfl rfl ⟨rfl, rfl, rfl, rfl, rfl⟩ rfl rfl rfl rfl rfl (by kernel_rfl) Try.func5 (by kernel_rfl)
    (of_decide_eq_true (by kernel_rfl)) (by unfold Func.isWrapper; first | (rw [if_pos (by decide +kernel)]; kernel_rfl) | (rw [if_neg (by decide +kernel)]; exact ⟨rfl, rfl⟩))
    (fun os started H enc _ => WalOpens_lifted os started H enc)
end Go.Proofs.Ytdpnjhooehadmaa.Pm
namespace Go.Proofs.Ytdpnjhooehadmaa
theorem WalOpens_proved : Rows.WalOpensSaid := Pm.WalOpens_holds
#print axioms WalOpens_proved
end Go.Proofs.Ytdpnjhooehadmaa
