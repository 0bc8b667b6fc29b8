/- journal: the statement JournalSaves: a checkpoint changes no number, at no stage of it, and no state; for any journal and stage. -/
import Derived.Test.YtlfpafdkegnkoaaGreatPmEy
import Derived.Test.YtlfpafdkegnkoaaGreatPmMm
set_option linter.all false
set_option maxRecDepth 100000
namespace Go.Proofs.YtlfpafdkegnkoaaGreat.Pm
open Go Go.RowKit Go.ChangeShapes Go.WideShapes Go.ChangeAt

theorem JournalSaves_lifted (os : Os) (started : os.Started) (H : Type) (enc : TypeId × Value → H) :
    ReturnsInHanded {} Tryz.checked os 6 .any (Rows.journalSavesSpec.pre6 enc Tryz.prog Tryz.f6 Rows.journalSavesRow.domain false) (Rows.journalSavesSpec.post enc Tryz.prog Tryz.f6 false true false false) :=
  law_of (C := Tryz.checked) (s := Rows.journalSavesSpec) (d := 6) H enc own started (by kernel_rfl) Tryz.func6
      (ChangeSpec.witness6 (enc := enc) (C := Tryz.checked) false ⟨#[], #[.agg #[.slice none 0 0, .slice none 0 0, .int .i64 0, .bool false, .slice none 0 0, .slice none 0 0, .int .i64 0, .bool false, .int .i64 0, .slice none 0 0, .slice none 0 0, .int .i64 0, .bool false, .int .i64 0, .int .i64 0, .int .i64 0, .int .i64 0, .int .i64 0, .int .i64 0, .int .i64 0, .int .i64 0, .int .i64 0, .int .i64 0], .int .i64 0], []⟩ 8 (by kernel_rfl) (by kernel_rfl) (by kernel_rfl) (by kernel_rfl))
      rfl (tb := 4) (by kernel_rfl) Tryz.underlying4 (by kernel_rfl) laid (by kernel_rfl)
      (fun ds hd => by
        match ds, hd with
        | [a0, a1], _ => rfl)
      (fun xs hx => by
        have hx' : All2 (ArgFits Tryz.prog 6) [32, 3] xs := hx
        clear hx
        obtain ⟨_, _, rfl, h0, hx'⟩ := all2_cons hx'
        obtain ⟨_, _, rfl, h1, hx'⟩ := all2_cons hx'
        obtain rfl := all2_nil hx'
        obtain ⟨j0, rfl, g0⟩ := arg_jr (d := 0) h0
        obtain ⟨i1, rfl, lo1, hi1⟩ := arg_i64 (d := 5) h1
        exact law_JournalSaves j0 g0 i1 lo1 (by omega))
theorem JournalSaves_holds : Rows.JournalSavesSaid :=
  OpenClaim.holds_of_wide 6 Tryz.f6 rfl rfl rfl rfl rfl rfl rfl ⟨rfl, rfl, rfl, rfl, rfl⟩ rfl rfl rfl rfl rfl (by kernel_rfl) Tryz.func6 (by kernel_rfl)
    (of_decide_eq_true (by kernel_rfl)) (by unfold Func.isWrapper; first | (rw [if_pos (by decide +kernel)]; kernel_rfl) | (rw [if_neg (by decide +kernel)]; exact ⟨rfl, rfl⟩))
    (fun os started H enc _ => JournalSaves_lifted os started H enc)
end Go.Proofs.YtlfpafdkegnkoaaGreat.Pm
namespace Go.Proofs.YtlfpafdkegnkoaaGreat
theorem JournalSaves_proved : Rows.JournalSavesSaid := Pm.JournalSaves_holds
#print axioms JournalSaves_proved
end Go.Proofs.YtlfpafdkegnkoaaGreat
