/- journal: the statement JournalSurvives: after a crash at any stage of a checkpoint, or at any other moment, recovery gives the state after a beginning of the operations, with all that were synced; for any journal, steps, stage and number of bytes. -/
import Derived.Test.YtlfpafdkegnkoaaGreatPmIc
import Derived.Test.YtlfpafdkegnkoaaGreatPmMm
set_option linter.all false
set_option maxRecDepth 100000
namespace Go.Proofs.YtlfpafdkegnkoaaGreat.Pm
open Go Go.RowKit Go.ChangeShapes Go.WideShapes Go.ChangeAt

theorem JournalSurvives_lifted (os : Os) (started : os.Started) (H : Type) (enc : TypeId × Value → H) :
    ReturnsInHanded {} Tryz.checked os 5 .any (Rows.journalSurvivesSpec.pre6 enc Tryz.prog Tryz.f5 Rows.journalSurvivesRow.domain false) (Rows.journalSurvivesSpec.post enc Tryz.prog Tryz.f5 false true false false) :=
  law_of (C := Tryz.checked) (s := Rows.journalSurvivesSpec) (d := 6) H enc own started (by kernel_rfl) Tryz.func5
      (ChangeSpec.witness6 (enc := enc) (C := Tryz.checked) false ⟨#[], #[.agg #[.slice none 0 0, .slice none 0 0, .int .i64 0, .bool false, .slice none 0 0, .slice none 0 0, .int .i64 0, .bool false, .int .i64 0, .slice none 0 0, .slice none 0 0, .int .i64 0, .bool false, .int .i64 0, .int .i64 0, .int .i64 0, .int .i64 0, .int .i64 0, .int .i64 0, .int .i64 0, .int .i64 0, .int .i64 0, .int .i64 0], .slice none 0 0, .int .i64 0, .int .i64 0], []⟩ 8 (by kernel_rfl) (by kernel_rfl) (by kernel_rfl) (by kernel_rfl))
      rfl (tb := 4) (by kernel_rfl) Tryz.underlying4 (by kernel_rfl) laid (by kernel_rfl)
      (fun ds hd => by
        match ds, hd with
        | [a0, a1, a2, a3], _ => rfl)
      (fun xs hx => by
        have hx' : All2 (ArgFits Tryz.prog 6) [32, 35, 3, 3] xs := hx
        clear hx
        obtain ⟨_, _, rfl, h0, hx'⟩ := all2_cons hx'
        obtain ⟨_, _, rfl, h1, hx'⟩ := all2_cons hx'
        obtain ⟨_, _, rfl, h2, hx'⟩ := all2_cons hx'
        obtain ⟨_, _, rfl, h3, hx'⟩ := all2_cons hx'
        obtain rfl := all2_nil hx'
        obtain ⟨j0, rfl, g0⟩ := arg_jr (d := 0) h0
        obtain ⟨l1, rfl, la1, lb1⟩ := arg_mvs (d := 3) h1
        obtain ⟨i2, rfl, lo2, hi2⟩ := arg_i64 (d := 5) h2
        obtain ⟨i3, rfl, lo3, hi3⟩ := arg_i64 (d := 5) h3
        exact law_JournalSurvives j0 g0 l1 la1 lb1 i2 i3 lo2 (by omega) lo3 (by omega))
theorem JournalSurvives_holds : Rows.JournalSurvivesSaid :=
  OpenClaim.holds_of_wide 5 Tryz.f5 rfl rfl rfl rfl rfl rfl rfl ⟨rfl, rfl, rfl, rfl, rfl⟩ rfl rfl rfl rfl rfl (by kernel_rfl) Tryz.func5 (by kernel_rfl)
    (of_decide_eq_true (by kernel_rfl)) (by unfold Func.isWrapper; first | (rw [if_pos (by decide +kernel)]; kernel_rfl) | (rw [if_neg (by decide +kernel)]; exact ⟨rfl, rfl⟩))
    (fun os started H enc _ => JournalSurvives_lifted os started H enc)
end Go.Proofs.YtlfpafdkegnkoaaGreat.Pm
namespace Go.Proofs.YtlfpafdkegnkoaaGreat
theorem JournalSurvives_proved : Rows.JournalSurvivesSaid := Pm.JournalSurvives_holds
#print axioms JournalSurvives_proved
end Go.Proofs.YtlfpafdkegnkoaaGreat
