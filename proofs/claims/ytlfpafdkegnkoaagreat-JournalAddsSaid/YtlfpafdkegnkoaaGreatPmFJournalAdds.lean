/- journal: the statement JournalAdds: operations have numbers in a row, and what they add does not depend on where they are parted or on their order; for any journal, operations and place. -/
import Derived.Test.YtlfpafdkegnkoaaGreatPmIa
import Derived.Test.YtlfpafdkegnkoaaGreatPmMm
set_option linter.all false
set_option maxRecDepth 100000
namespace Go.Proofs.YtlfpafdkegnkoaaGreat.Pm
open Go Go.RowKit Go.ChangeShapes Go.WideShapes Go.ChangeAt

theorem JournalAdds_lifted (os : Os) (started : os.Started) (H : Type) (enc : TypeId × Value → H) :
    ReturnsInHanded {} Tryz.checked os 4 .any (Rows.journalAddsSpec.pre6 enc Tryz.prog Tryz.f4 Rows.journalAddsRow.domain false) (Rows.journalAddsSpec.post enc Tryz.prog Tryz.f4 false true false false) :=
  law_of (C := Tryz.checked) (s := Rows.journalAddsSpec) (d := 6) H enc own started (by kernel_rfl) Tryz.func4
      (ChangeSpec.witness6 (enc := enc) (C := Tryz.checked) false ⟨#[], #[.agg #[.slice none 0 0, .slice none 0 0, .int .i64 0, .bool false, .slice none 0 0, .slice none 0 0, .int .i64 0, .bool false, .int .i64 0, .slice none 0 0, .slice none 0 0, .int .i64 0, .bool false, .int .i64 0, .int .i64 0, .int .i64 0, .int .i64 0, .int .i64 0, .int .i64 0, .int .i64 0, .int .i64 0, .int .i64 0, .int .i64 0], .slice none 0 0, .int .i64 0], []⟩ 8 (by kernel_rfl) (by kernel_rfl) (by kernel_rfl) (by kernel_rfl))
      rfl (tb := 4) (by kernel_rfl) Tryz.underlying4 (by kernel_rfl) laid (by kernel_rfl)
      (fun ds hd => by
        match ds, hd with
        | [a0, a1, a2], _ => rfl)
      (fun xs hx => by
        have hx' : All2 (ArgFits Tryz.prog 6) [32, 35, 3] xs := hx
        clear hx
        obtain ⟨_, _, rfl, h0, hx'⟩ := all2_cons hx'
        obtain ⟨_, _, rfl, h1, hx'⟩ := all2_cons hx'
        obtain ⟨_, _, rfl, h2, hx'⟩ := all2_cons hx'
        obtain rfl := all2_nil hx'
        obtain ⟨j0, rfl, g0⟩ := arg_jr (d := 0) h0
        obtain ⟨l1, rfl, la1, lb1⟩ := arg_mvs (d := 3) h1
        obtain ⟨i2, rfl, lo2, hi2⟩ := arg_i64 (d := 5) h2
        exact law_JournalAdds j0 g0 l1 la1 lb1 i2 lo2 (by omega))
theorem JournalAdds_holds : Rows.JournalAddsSaid :=
  OpenClaim.holds_of_wide 4 Tryz.f4 rfl rfl rfl rfl rfl rfl rfl ⟨rfl, rfl, rfl, rfl, rfl⟩ rfl rfl rfl rfl rfl (by kernel_rfl) Tryz.func4 (by kernel_rfl)
    (of_decide_eq_true (by kernel_rfl)) (by unfold Func.isWrapper; first | (rw [if_pos (by decide +kernel)]; kernel_rfl) | (rw [if_neg (by decide +kernel)]; exact ⟨rfl, rfl⟩))
    (fun os started H enc _ => JournalAdds_lifted os started H enc)
end Go.Proofs.YtlfpafdkegnkoaaGreat.Pm
namespace Go.Proofs.YtlfpafdkegnkoaaGreat
theorem JournalAdds_proved : Rows.JournalAddsSaid := Pm.JournalAdds_holds
#print axioms JournalAdds_proved
end Go.Proofs.YtlfpafdkegnkoaaGreat
