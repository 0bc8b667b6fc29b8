/- wal: the statement WalDrops: dropping and then opening leaves the other records; for any log and number. -/
import Derived.Test.YtdpnjhooehadmaaPmWs
import Derived.Test.YtdpnjhooehadmaaPmMh
set_option linter.all false
set_option maxRecDepth 100000
namespace Go.Proofs.Ytdpnjhooehadmaa.Pm
open Go Go.RowKit Go.ChangeShapes Go.WideShapes Go.ChangeAt

theorem WalDrops_lifted (os : Os) (started : os.Started) (H : Type) (enc : TypeId × Value → H) :
    ReturnsInHanded {} Try.checked os 15 .any (Rows.walDropsSpec.pre6 enc Try.prog Try.f15 Rows.walDropsRow.domain false) (Rows.walDropsSpec.post enc Try.prog Try.f15 false true false false) :=
  law_of (C := Try.checked) (s := Rows.walDropsSpec) (d := 4) H enc own started (by kernel_rfl) Try.func15
      (ChangeSpec.witness6 (enc := enc) (C := Try.checked) false ⟨#[], #[.agg #[.slice none 0 0, .slice none 0 0, .int .i64 0, .bool false, .int .i64 0, .int .i64 0], .int .i64 0], []⟩ 8 (by kernel_rfl) (by kernel_rfl) (by kernel_rfl) (by kernel_rfl))
      rfl (tb := 4) (by kernel_rfl) Try.underlying4 (by kernel_rfl) laid (by kernel_rfl)
      (fun ds hd => by
        match ds, hd with
        | [a0, a1], _ => rfl)
      (fun xs hx => by
        have hx' : All2 (ArgFits Try.prog 4) [26, 3] xs := hx
        clear hx
        obtain ⟨_, _, rfl, h0, hx'⟩ := all2_cons hx'
        obtain ⟨_, _, rfl, h1, hx'⟩ := all2_cons hx'
        obtain rfl := all2_nil hx'
        obtain ⟨l0, rfl, fa0, fb0, na0, nb0⟩ := arg_log (d := 0) h0
        obtain ⟨i1, rfl, l1, u1⟩ := arg_i64 (d := 3) h1
        exact law_WalDrops l0 i1 fa0 fb0 na0 nb0 l1 u1)
theorem WalDrops_holds : Rows.WalDropsSaid :=
  OpenClaim.holds_of_wide 15 Try.f15 rfl rfl rfl rfl rfl rfl rfl ⟨rfl, rfl, rfl, rfl, rfl⟩ rfl rfl rfl rfl rfl (by kernel_rfl) Try.func15 (by kernel_rfl)
    (of_decide_eq_true (by kernel_rfl)) (by unfold Func.isWrapper; first | (rw [if_pos (by decide +kernel)]; kernel_rfl) | (rw [if_neg (by decide +kernel)]; exact ⟨rfl, rfl⟩))
    (fun os started H enc _ => WalDrops_lifted os started H enc)
end Go.Proofs.Ytdpnjhooehadmaa.Pm
namespace Go.Proofs.Ytdpnjhooehadmaa
theorem WalDrops_proved : Rows.WalDropsSaid := Pm.WalDrops_holds
#print axioms WalDrops_proved
end Go.Proofs.Ytdpnjhooehadmaa
