/- journal: the statement JournalSteps: New, Apply, Do, Sync, Save and Check are the reference's, for any journal, operation, state, operations and capacity. -/
import Derived.Test.YtlfpafdkegnkoaaGreatPmEn
import Derived.Test.YtlfpafdkegnkoaaGreatPmMm
set_option linter.all false
set_option maxRecDepth 100000
namespace Go.Proofs.YtlfpafdkegnkoaaGreat.Pm
open Go Go.RowKit Go.ChangeShapes Go.WideShapes Go.ChangeAt

theorem JournalSteps_lifted (os : Os) (started : os.Started) (H : Type) (enc : TypeId × Value → H) :
    ReturnsInHanded {} Tryz.checked os 3 .any (Rows.journalStepsSpec.pre6 enc Tryz.prog Tryz.f3 Rows.journalStepsRow.domain false) (Rows.journalStepsSpec.post enc Tryz.prog Tryz.f3 false true false false) :=
  law_of (C := Tryz.checked) (s := Rows.journalStepsSpec) (d := 6) H enc own started (by kernel_rfl) Tryz.func3
      (ChangeSpec.witness6 (enc := enc) (C := Tryz.checked) false ⟨#[], #[.agg #[.slice none 0 0, .slice none 0 0, .int .i64 0, .bool false, .slice none 0 0, .slice none 0 0, .int .i64 0, .bool false, .int .i64 0, .slice none 0 0, .slice none 0 0, .int .i64 0, .bool false, .int .i64 0, .int .i64 0, .int .i64 0, .int .i64 0, .int .i64 0, .int .i64 0, .int .i64 0, .int .i64 0, .int .i64 0, .int .i64 0], .agg #[.int .i64 0, .int .i64 0], .agg #[.int .i64 0, .int .i64 0, .int .i64 0, .int .i64 0, .int .i64 0, .int .i64 0, .int .i64 0, .int .i64 0], .slice none 0 0, .int .i64 0], []⟩ 8 (by kernel_rfl) (by kernel_rfl) (by kernel_rfl) (by kernel_rfl))
      rfl (tb := 4) (by kernel_rfl) Tryz.underlying4 (by kernel_rfl) laid (by kernel_rfl)
      (fun ds hd => by
        match ds, hd with
        | [a0, a1, a2, a3, a4], _ => rfl)
      (fun xs hx => by
        have hx' : All2 (ArgFits Tryz.prog 6) [32, 34, 30, 35, 3] xs := hx
        clear hx
        obtain ⟨_, _, rfl, h0, hx'⟩ := all2_cons hx'
        obtain ⟨_, _, rfl, h1, hx'⟩ := all2_cons hx'
        obtain ⟨_, _, rfl, h2, hx'⟩ := all2_cons hx'
        obtain ⟨_, _, rfl, h3, hx'⟩ := all2_cons hx'
        obtain ⟨_, _, rfl, h4, hx'⟩ := all2_cons hx'
        obtain rfl := all2_nil hx'
        obtain ⟨j0, rfl, g0⟩ := arg_jr (d := 0) h0
        obtain ⟨m1, rfl, ma1, mb1⟩ := arg_mv (d := 4) h1
        obtain ⟨c2, rfl, ca2, cb2⟩ := arg_state (d := 4) h2
        obtain ⟨l3, rfl, la3, lb3⟩ := arg_mvs (d := 3) h3
        obtain ⟨i4, rfl, lo4, hi4⟩ := arg_i64 (d := 5) h4
        exact law_JournalSteps j0 m1 c2 l3 i4 g0.s g0.f g0.n g0.len g0.c mb1.1 mb1.2 ca2)
theorem JournalSteps_holds : Rows.JournalStepsSaid :=
  OpenClaim.holds_of_wide 3 Tryz.f3 rfl rfl rfl rfl rfl rfl rfl ⟨rfl, rfl, rfl, rfl, rfl⟩ rfl rfl rfl rfl rfl (by kernel_rfl) Tryz.func3 (by kernel_rfl)
    (of_decide_eq_true (by kernel_rfl)) (by unfold Func.isWrapper; first | (rw [if_pos (by decide +kernel)]; kernel_rfl) | (rw [if_neg (by decide +kernel)]; exact ⟨rfl, rfl⟩))
    (fun os started H enc _ => JournalSteps_lifted os started H enc)
end Go.Proofs.YtlfpafdkegnkoaaGreat.Pm
namespace Go.Proofs.YtlfpafdkegnkoaaGreat
theorem JournalSteps_proved : Rows.JournalStepsSaid := Pm.JournalSteps_holds
#print axioms JournalSteps_proved
end Go.Proofs.YtlfpafdkegnkoaaGreat
