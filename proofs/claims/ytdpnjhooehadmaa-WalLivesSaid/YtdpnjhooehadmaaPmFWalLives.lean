/- wal: the statement WalLives: any order of appends, syncs and crashes; for any log and steps. -/
import Derived.Test.YtdpnjhooehadmaaPmWu
import Derived.Test.YtdpnjhooehadmaaPmWy
set_option linter.all false
set_option maxRecDepth 100000
namespace Go.Proofs.Ytdpnjhooehadmaa.Pm
open Go Go.RowKit Go.ChangeShapes Go.WideShapes Go.ChangeAt

theorem WalLives_lifted (os : Os) (started : os.Started) (H : Type) (enc : TypeId × Value → H) :
    ReturnsInHanded {} Try.checked os 13 .any (Rows.walLivesSpec.pre6 enc Try.prog Try.f13 Rows.walLivesRow.domain false) (Rows.walLivesSpec.post enc Try.prog Try.f13 false true false false) :=
  law_of (C := Try.checked) (s := Rows.walLivesSpec) (d := 4) H enc own started (by kernel_rfl) Try.func13
      (ChangeSpec.witness6 (enc := enc) (C := Try.checked) false ⟨#[], #[.agg #[.slice none 0 0, .slice none 0 0, .int .i64 0, .bool false, .int .i64 0, .int .i64 0], .slice none 0 0], []⟩ 8 (by kernel_rfl) (by kernel_rfl) (by kernel_rfl) (by kernel_rfl))
      rfl (tb := 4) (by kernel_rfl) Try.underlying4 (by kernel_rfl) laid (by kernel_rfl)
      (fun ds hd => by
        match ds, hd with
        | [a0, a1], _ => rfl)
      (fun xs hx => by
        have hx' : All2 (ArgFits Try.prog 4) [26, 98] xs := hx
        clear hx
        obtain ⟨_, _, rfl, h0, hx'⟩ := all2_cons hx'
        obtain ⟨_, _, rfl, h1, hx'⟩ := all2_cons hx'
        obtain rfl := all2_nil hx'
        obtain ⟨l0, rfl, fa0, fb0, na0, nb0⟩ := arg_log (d := 0) h0
        obtain ⟨i1, rfl, r1⟩ := arg_ints (d := 2) h1
        exact law_WalLives l0 i1 r1 fa0 fb0 na0 nb0)
theorem WalLives_holds : Rows.WalLivesSaid :=
  OpenClaim.holds_of_wide 13 Try.f13 rfl rfl rfl rfl rfl rfl rfl ⟨rfl, rfl, rfl, rfl, rfl⟩ rfl rfl rfl rfl rfl (by kernel_rfl) Try.func13 (by kernel_rfl)
    (of_decide_eq_true (by kernel_rfl)) (by unfold Func.isWrapper; first | (rw [if_pos (by decide +kernel)]; kernel_rfl) | (rw [if_neg (by decide +kernel)]; exact ⟨rfl, rfl⟩))
    (fun os started H enc _ => WalLives_lifted os started H enc)
end Go.Proofs.Ytdpnjhooehadmaa.Pm
namespace Go.Proofs.Ytdpnjhooehadmaa
theorem WalLives_proved : Rows.WalLivesSaid := Pm.WalLives_holds
#print axioms WalLives_proved
end Go.Proofs.Ytdpnjhooehadmaa
