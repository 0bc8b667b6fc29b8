/- wal: the statement WalWrites: Append, Sync and Drop are the reference's, for any log, bytes and number. -/
import Derived.Test.YtdpnjhooehadmaaPmWw
import Derived.Test.YtdpnjhooehadmaaPmMh
set_option linter.all false
set_option maxRecDepth 100000
namespace Go.Proofs.Ytdpnjhooehadmaa.Pm
open Go Go.RowKit Go.ChangeShapes Go.WideShapes Go.ChangeAt

theorem WalWrites_lifted (os : Os) (started : os.Started) (H : Type) (enc : TypeId × Value → H) :
    ReturnsInHanded {} Try.checked os 7 .any (Rows.walWritesSpec.pre6 enc Try.prog Try.f7 Rows.walWritesRow.domain false) (Rows.walWritesSpec.post enc Try.prog Try.f7 false true false false) :=
  law_of (C := Try.checked) (s := Rows.walWritesSpec) (d := 4) H enc own started (by kernel_rfl) Try.func7
      (ChangeSpec.witness6 (enc := enc) (C := Try.checked) false ⟨#[], #[.agg #[.slice none 0 0, .slice none 0 0, .int .i64 0, .bool false, .int .i64 0, .int .i64 0], .slice none 0 0, .int .i64 0], []⟩ 8 (by kernel_rfl) (by kernel_rfl) (by kernel_rfl) (by kernel_rfl))
      rfl (tb := 4) (by kernel_rfl) Try.underlying4 (by kernel_rfl) laid (by kernel_rfl)
      (fun ds hd => by
        match ds, hd with
        | [a0, a1, a2], _ => rfl)
      (fun xs hx => by
        have hx' : All2 (ArgFits Try.prog 4) [26, 22, 3] xs := hx
        clear hx
        obtain ⟨_, _, rfl, h0, hx'⟩ := all2_cons hx'
        obtain ⟨_, _, rfl, h1, hx'⟩ := all2_cons hx'
        obtain ⟨_, _, rfl, h2, hx'⟩ := all2_cons hx'
        obtain rfl := all2_nil hx'
        obtain ⟨l0, rfl, fa0, fb0, na0, nb0⟩ := arg_log (d := 0) h0
        obtain ⟨b1, rfl, n1⟩ := arg_bs (d := 2) h1
        obtain ⟨i2, rfl, l2, u2⟩ := arg_i64 (d := 3) h2
        exact law_WalWrites l0 b1 i2 fa0 fb0 na0 nb0 l2 u2)
theorem WalWrites_holds : Rows.WalWritesSaid :=
  OpenClaim.holds_of_wide 7 Try.f7 rfl rfl rfl rfl rfl rfl rfl ⟨rfl, rfl, rfl, rfl, rfl⟩ rfl rfl rfl rfl rfl (by kernel_rfl) Try.func7 (by kernel_rfl)
    (of_decide_eq_true (by kernel_rfl)) (by unfold Func.isWrapper; first | (rw [if_pos (by decide +kernel)]; kernel_rfl) | (rw [if_neg (by decide +kernel)]; exact ⟨rfl, rfl⟩))
    (fun os started H enc _ => WalWrites_lifted os started H enc)
end Go.Proofs.Ytdpnjhooehadmaa.Pm
namespace Go.Proofs.Ytdpnjhooehadmaa
theorem WalWrites_proved : Rows.WalWritesSaid := Pm.WalWrites_holds
#print axioms WalWrites_proved
end Go.Proofs.Ytdpnjhooehadmaa
