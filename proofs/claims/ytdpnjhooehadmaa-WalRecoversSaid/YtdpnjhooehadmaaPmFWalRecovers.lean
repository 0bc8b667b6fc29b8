/- wal: the statement WalRecovers: opening a device after a crash gives all synced records, and a beginning of the others; for any log and number of bytes. -/
import Derived.Test.YtdpnjhooehadmaaPmWr
import Derived.Test.YtdpnjhooehadmaaPmMh
set_option linter.all false
set_option maxRecDepth 100000
namespace Go.Proofs.Ytdpnjhooehadmaa.Pm
open Go Go.RowKit Go.ChangeShapes Go.WideShapes Go.ChangeAt

theorem WalRecovers_lifted (os : Os) (started : os.Started) (H : Type) (enc : TypeId × Value → H) :
    ReturnsInHanded {} Try.checked os 12 .any (Rows.walRecoversSpec.pre6 enc Try.prog Try.f12 Rows.walRecoversRow.domain false) (Rows.walRecoversSpec.post enc Try.prog Try.f12 false true false false) :=
  law_of (C := Try.checked) (s := Rows.walRecoversSpec) (d := 4) H enc own started (by kernel_rfl) Try.func12
      (ChangeSpec.witness6 (enc := enc) (C := Try.checked) false ⟨#[], #[.agg #[.slice none 0 0, .slice none 0 0, .int .i64 0, .bool false, .int .i64 0, .int .i64 0], .int .i64 0], []⟩ 8 (by kernel_rfl) (by kernel_rfl) (by kernel_rfl) (by kernel_rfl))
      rfl (tb := 4) (by kernel_rfl) Try.underlying4 (by kernel_rfl) laid (by kernel_rfl)
      (fun ds hd => by
        match ds, hd with
        | [a0, a1], _ => rfl)
      (fun xs hx => by
        have hx' : All2 (ArgFits Try.prog 4) [26, 3] xs := hx
        clear hx
        obtain ⟨_, _, rfl, h0, hx'⟩ := all2_cons hx'
        obtain ⟨_, _, rfl, h1, hx'⟩ := all2_cons hx'
        obtain rfl := all2_nil hx'
        obtain ⟨l0, rfl, fa0, fb0, na0, nb0⟩ := arg_log (d := 0) h0
        obtain ⟨i1, rfl, l1, u1⟩ := arg_i64 (d := 3) h1
        exact law_WalRecovers l0 i1 fa0 fb0 na0 nb0 l1 (by omega))
theorem WalRecovers_holds : Rows.WalRecoversSaid :=
  OpenClaim.holds_of_wide 12 Try.f12 rfl rfl rfl rfl rfl rfl rfl ⟨rfl, rfl, rfl, rfl, rfl⟩ rfl rfl rfl rfl rfl (by kernel_rfl) Try.func12 (by kernel_rfl)
    (of_decide_eq_true (by kernel_rfl)) (by unfold Func.isWrapper; first | (rw [if_pos (by decide +kernel)]; kernel_rfl) | (rw [if_neg (by decide +kernel)]; exact ⟨rfl, rfl⟩))
    (fun os started H enc _ => WalRecovers_lifted os started H enc)
end Go.Proofs.Ytdpnjhooehadmaa.Pm
namespace Go.Proofs.Ytdpnjhooehadmaa
theorem WalRecovers_proved : Rows.WalRecoversSaid := Pm.WalRecovers_holds
#print axioms WalRecovers_proved
end Go.Proofs.Ytdpnjhooehadmaa
