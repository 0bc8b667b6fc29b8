/-
  No cell of these rows narrows 'for every input' (looked for: loops, veiled, ifaces, maps, wideKeys, modest, calm, conditions, laid).
  DERIVED. THE GIVEN ROWS OF THIS SEAT. 4 by the template 'for every input the law returns true; each argument reads behind the call as it read before'; 0 by the template 'total and deterministic' (their statements: YtlfpafdkegnkoaaGreatTotals.lean).
  GIVEN WITH THE SEED: the statements are not yours to turn. If you find one false, say at which input.
  Laid BY PROGRAM, IN A SANDBOX (cutbox-rows.mjs): the forced cells as the released guide's own fill.sh prints them over the translation c969cfa6e9fcee98… (all of the seat's roots in one cut). By AI agents, Wed Nov 11 2026. No macro, syntax, notation, axiom, sorry.
-/
import Derived.Test.YtlfpafdkegnkoaaGreatChecked
import GoSem.Claim
import GoSem.ClaimJoined
import GoSem.ClaimMapViews
import Derived.JoinedTies
import Derived.KernelRfl
namespace Go.Proofs.YtlfpafdkegnkoaaGreat
/- THE CELL 'sum', in the pinned program and in every row, IS THE sha256 OF THE DUMP (.gsa) THAT YtlfpafdkegnkoaaGreatProg.lean LOADS. Nothing in Lean hashes anything: it is a label: what it is worth is what the hold of that sum in a sandbox is worth. -/
noncomputable def Tryz.pinned : Pinned := { name := "ytlfpafdkegnkoaagreat", sum := "c969cfa6e9fcee98d0297eba2c427085cf067ae6a9060c7bd497158448dc9170", checked := Tryz.checked }
namespace Rows
def none {H : Type} : Left H := { results := [], args := [] }

/-- 'sidinglaw06.JournalSteps': WHATEVER THE INPUT: true; the input reads as it did. -/
def journalStepsSpec : ChangeSpec := { name := "journalSteps", fn := fun _ => fun
  | [d1, d2, d3, d4, d5] => { results := [.lit (.bool true)], args := [d1, d2, d3, d4, d5] }
  | _ => none }
def journalStepsRow : OpenClaim := { program := "ytlfpafdkegnkoaagreat", sum := "c969cfa6e9fcee98d0297eba2c427085cf067ae6a9060c7bd497158448dc9170", func := "siding/sidinglaw06.JournalSteps", spec := "journalSteps", unfollowed := true, recurses := true, apart := false }
def JournalStepsSaid : Prop := journalStepsRow.holds Tryz.pinned (OpenSpec.ofChange journalStepsSpec)

/-- ITS FALSE NEIGHBOUR: 'it returns false'. Refute it at one input. -/
def journalStepsWrong : ChangeSpec := { name := "journalSteps", fn := fun _ => fun
  | [d1, d2, d3, d4, d5] => { results := [.lit (.bool false)], args := [d1, d2, d3, d4, d5] }
  | _ => none }
def JournalStepsWrongFalsely : Prop := journalStepsRow.holds Tryz.pinned (OpenSpec.ofChange journalStepsWrong)

/-- 'sidinglaw06.JournalAdds': WHATEVER THE INPUT: true; the input reads as it did. -/
def journalAddsSpec : ChangeSpec := { name := "journalAdds", fn := fun _ => fun
  | [d1, d2, d3] => { results := [.lit (.bool true)], args := [d1, d2, d3] }
  | _ => none }
def journalAddsRow : OpenClaim := { program := "ytlfpafdkegnkoaagreat", sum := "c969cfa6e9fcee98d0297eba2c427085cf067ae6a9060c7bd497158448dc9170", func := "siding/sidinglaw06.JournalAdds", spec := "journalAdds", unfollowed := true, recurses := true, apart := false }
def JournalAddsSaid : Prop := journalAddsRow.holds Tryz.pinned (OpenSpec.ofChange journalAddsSpec)

/-- ITS FALSE NEIGHBOUR: 'it returns false'. Refute it at one input. -/
def journalAddsWrong : ChangeSpec := { name := "journalAdds", fn := fun _ => fun
  | [d1, d2, d3] => { results := [.lit (.bool false)], args := [d1, d2, d3] }
  | _ => none }
def JournalAddsWrongFalsely : Prop := journalAddsRow.holds Tryz.pinned (OpenSpec.ofChange journalAddsWrong)

/-- 'sidinglaw06.JournalSurvives': WHATEVER THE INPUT: true; the input reads as it did. -/
def journalSurvivesSpec : ChangeSpec := { name := "journalSurvives", fn := fun _ => fun
  | [d1, d2, d3, d4] => { results := [.lit (.bool true)], args := [d1, d2, d3, d4] }
  | _ => none }
def journalSurvivesRow : OpenClaim := { program := "ytlfpafdkegnkoaagreat", sum := "c969cfa6e9fcee98d0297eba2c427085cf067ae6a9060c7bd497158448dc9170", func := "siding/sidinglaw06.JournalSurvives", spec := "journalSurvives", unfollowed := true, recurses := true, apart := false }
def JournalSurvivesSaid : Prop := journalSurvivesRow.holds Tryz.pinned (OpenSpec.ofChange journalSurvivesSpec)

/-- ITS FALSE NEIGHBOUR: 'it returns false'. Refute it at one input. -/
def journalSurvivesWrong : ChangeSpec := { name := "journalSurvives", fn := fun _ => fun
  | [d1, d2, d3, d4] => { results := [.lit (.bool false)], args := [d1, d2, d3, d4] }
  | _ => none }
def JournalSurvivesWrongFalsely : Prop := journalSurvivesRow.holds Tryz.pinned (OpenSpec.ofChange journalSurvivesWrong)

/-- 'sidinglaw06.JournalSaves': WHATEVER THE INPUT: true; the input reads as it did. -/
def journalSavesSpec : ChangeSpec := { name := "journalSaves", fn := fun _ => fun
  | [d1, d2] => { results := [.lit (.bool true)], args := [d1, d2] }
  | _ => none }
def journalSavesRow : OpenClaim := { program := "ytlfpafdkegnkoaagreat", sum := "c969cfa6e9fcee98d0297eba2c427085cf067ae6a9060c7bd497158448dc9170", func := "siding/sidinglaw06.JournalSaves", spec := "journalSaves", unfollowed := true, recurses := true, apart := false }
def JournalSavesSaid : Prop := journalSavesRow.holds Tryz.pinned (OpenSpec.ofChange journalSavesSpec)

/-- ITS FALSE NEIGHBOUR: 'it returns false'. Refute it at one input. -/
def journalSavesWrong : ChangeSpec := { name := "journalSaves", fn := fun _ => fun
  | [d1, d2] => { results := [.lit (.bool false)], args := [d1, d2] }
  | _ => none }
def JournalSavesWrongFalsely : Prop := journalSavesRow.holds Tryz.pinned (OpenSpec.ofChange journalSavesWrong)

/- THE SECOND FORM. 'bulk': how many values and letters a reading holds, each counted each time it is reached (what is shared counts as often as it is met; a slice's spare places count too). A statement '..UptoSaid' is the law's where the arguments, and the package variables that the reading takes, are together of bulk at most 1048576: NARROWER than '..Said'. Prove '..Said' where nothing that the law and all that it calls make is longer than what came in: it says more and counts as full. Else prove '..UptoSaid'. A law counts once. -/
mutual
def uptoBulk {H : Type} : DataW H → Nat
  | .lit (.string bytes) => bytes.length + 1
  | .lit _ => 1
  | .nil => 1
  | .ptr d => uptoBulk d + 1
  | .slice elems spare => uptoBulkAll elems + uptoBulkAll spare + 1
  | .agg parts => uptoBulkAll parts + 1
  | .iface _ d => uptoBulk d + 1
  | .map entries => uptoBulkEntries entries + 1
  | .held _ => 1
def uptoBulkAll {H : Type} : List (DataW H) → Nat
  | [] => 0
  | d :: r => uptoBulk d + uptoBulkAll r
def uptoBulkEntries {H : Type} : List (Lit × DataW H) → Nat
  | [] => 0
  | x :: r => uptoBulkEntry x + uptoBulkEntries r
def uptoBulkEntry {H : Type} : Lit × DataW H → Nat
  | (.string bytes, d) => bytes.length + uptoBulk d + 1
  | (_, d) => uptoBulk d + 1
 end
def uptoSmall : (H : Type) → List (DataW H) → Bool := fun _ ds => decide (uptoBulkAll ds ≤ 1048576)
def OpenSpec.upto (s : _root_.Go.ChangeSpec) : _root_.Go.OpenSpec := { _root_.Go.OpenSpec.ofChange s with cond := some uptoSmall }

/-- 'sidinglaw06.JournalSteps', WHERE WHAT IT READS IS OF BULK AT MOST 1048576: true; the input reads as it did. -/
def journalStepsUptoRow : OpenClaim := { program := "ytlfpafdkegnkoaagreat", sum := "c969cfa6e9fcee98d0297eba2c427085cf067ae6a9060c7bd497158448dc9170", func := "siding/sidinglaw06.JournalSteps", spec := "journalSteps", unfollowed := true, recurses := true, apart := false, narrowed := true }
def JournalStepsUptoSaid : Prop := journalStepsUptoRow.holds Tryz.pinned (OpenSpec.upto journalStepsSpec)

/-- 'sidinglaw06.JournalAdds', WHERE WHAT IT READS IS OF BULK AT MOST 1048576: true; the input reads as it did. -/
def journalAddsUptoRow : OpenClaim := { program := "ytlfpafdkegnkoaagreat", sum := "c969cfa6e9fcee98d0297eba2c427085cf067ae6a9060c7bd497158448dc9170", func := "siding/sidinglaw06.JournalAdds", spec := "journalAdds", unfollowed := true, recurses := true, apart := false, narrowed := true }
def JournalAddsUptoSaid : Prop := journalAddsUptoRow.holds Tryz.pinned (OpenSpec.upto journalAddsSpec)

/-- 'sidinglaw06.JournalSurvives', WHERE WHAT IT READS IS OF BULK AT MOST 1048576: true; the input reads as it did. -/
def journalSurvivesUptoRow : OpenClaim := { program := "ytlfpafdkegnkoaagreat", sum := "c969cfa6e9fcee98d0297eba2c427085cf067ae6a9060c7bd497158448dc9170", func := "siding/sidinglaw06.JournalSurvives", spec := "journalSurvives", unfollowed := true, recurses := true, apart := false, narrowed := true }
def JournalSurvivesUptoSaid : Prop := journalSurvivesUptoRow.holds Tryz.pinned (OpenSpec.upto journalSurvivesSpec)

/-- 'sidinglaw06.JournalSaves', WHERE WHAT IT READS IS OF BULK AT MOST 1048576: true; the input reads as it did. -/
def journalSavesUptoRow : OpenClaim := { program := "ytlfpafdkegnkoaagreat", sum := "c969cfa6e9fcee98d0297eba2c427085cf067ae6a9060c7bd497158448dc9170", func := "siding/sidinglaw06.JournalSaves", spec := "journalSaves", unfollowed := true, recurses := true, apart := false, narrowed := true }
def JournalSavesUptoSaid : Prop := journalSavesUptoRow.holds Tryz.pinned (OpenSpec.upto journalSavesSpec)

end Rows
end Go.Proofs.YtlfpafdkegnkoaaGreat
