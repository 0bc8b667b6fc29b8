/-
  No cell of these rows narrows 'for every input' (looked for: loops, veiled, ifaces, maps, wideKeys, modest, calm, conditions, laid).
  DERIVED. THE GIVEN ROWS OF THIS SEAT. 13 by the template 'for every input the law returns true; each argument reads behind the call as it read before'; 0 by the template 'total and deterministic' (their statements: YtdpnjhooehadmaaTotals.lean).
  GIVEN WITH THE SEED: the statements are not yours to turn. If you find one false, say at which input.
  Laid BY PROGRAM, IN A SANDBOX (cutbox-rows.mjs): the forced cells as the released guide's own fill.sh prints them over the translation f622e41397bad670… (all of the seat's roots in one cut). By AI agents, Wed Nov 11 2026. No macro, syntax, notation, axiom, sorry.
-/
import Derived.Test.YtdpnjhooehadmaaChecked
import GoSem.Claim
import GoSem.ClaimJoined
import GoSem.ClaimMapViews
import Derived.JoinedTies
import Derived.KernelRfl
namespace Go.Proofs.Ytdpnjhooehadmaa
/- THE CELL 'sum', in the pinned program and in every row, IS THE sha256 OF THE DUMP (.gsa) THAT YtdpnjhooehadmaaProg.lean LOADS. Nothing in Lean hashes anything: it is a label: what it is worth is what the hold of that sum in a sandbox is worth. -/
noncomputable def Try.pinned : Pinned := { name := "ytdpnjhooehadmaa", sum := "f622e41397bad670a2a739f6c9ae2be5fd67e0642c047bd54576c8e1e479010d", checked := Try.checked }
namespace Rows
def none {H : Type} : Left H := { results := [], args := [] }

/-- 'sidinglaw04.WalReads': WHATEVER THE INPUT: true; the input reads as it did. -/
def walReadsSpec : ChangeSpec := { name := "walReads", fn := fun _ => fun
  | [d1, d2] => { results := [.lit (.bool true)], args := [d1, d2] }
  | _ => none }
def walReadsRow : OpenClaim := { program := "ytdpnjhooehadmaa", sum := "f622e41397bad670a2a739f6c9ae2be5fd67e0642c047bd54576c8e1e479010d", func := "siding/sidinglaw04.WalReads", spec := "walReads", unfollowed := true, recurses := true, apart := false }
def WalReadsSaid : Prop := walReadsRow.holds Try.pinned (OpenSpec.ofChange walReadsSpec)

/-- ITS FALSE NEIGHBOUR: 'it returns false'. Refute it at one input. -/
def walReadsWrong : ChangeSpec := { name := "walReads", fn := fun _ => fun
  | [d1, d2] => { results := [.lit (.bool false)], args := [d1, d2] }
  | _ => none }
def WalReadsWrongFalsely : Prop := walReadsRow.holds Try.pinned (OpenSpec.ofChange walReadsWrong)

/-- 'sidinglaw05.SlotsLoads': WHATEVER THE INPUT: true; the input reads as it did. -/
def slotsLoadsSpec : ChangeSpec := { name := "slotsLoads", fn := fun _ => fun
  | [d] => { results := [.lit (.bool true)], args := [d] }
  | _ => none }
def slotsLoadsRow : OpenClaim := { program := "ytdpnjhooehadmaa", sum := "f622e41397bad670a2a739f6c9ae2be5fd67e0642c047bd54576c8e1e479010d", func := "siding/sidinglaw05.SlotsLoads", spec := "slotsLoads", apart := false }
def SlotsLoadsSaid : Prop := slotsLoadsRow.holds Try.pinned (OpenSpec.ofChange slotsLoadsSpec)

/-- ITS FALSE NEIGHBOUR: 'it returns false'. Refute it at one input. -/
def slotsLoadsWrong : ChangeSpec := { name := "slotsLoads", fn := fun _ => fun
  | [d] => { results := [.lit (.bool false)], args := [d] }
  | _ => none }
def SlotsLoadsWrongFalsely : Prop := slotsLoadsRow.holds Try.pinned (OpenSpec.ofChange slotsLoadsWrong)

/-- 'sidinglaw04.WalOpens': WHATEVER THE INPUT: true; the input reads as it did. -/
def walOpensSpec : ChangeSpec := { name := "walOpens", fn := fun _ => fun
  | [d1, d2, d3, d4] => { results := [.lit (.bool true)], args := [d1, d2, d3, d4] }
  | _ => none }
def walOpensRow : OpenClaim := { program := "ytdpnjhooehadmaa", sum := "f622e41397bad670a2a739f6c9ae2be5fd67e0642c047bd54576c8e1e479010d", func := "siding/sidinglaw04.WalOpens", spec := "walOpens", apart := false }
def WalOpensSaid : Prop := walOpensRow.holds Try.pinned (OpenSpec.ofChange walOpensSpec)

/-- ITS FALSE NEIGHBOUR: 'it returns false'. Refute it at one input. -/
def walOpensWrong : ChangeSpec := { name := "walOpens", fn := fun _ => fun
  | [d1, d2, d3, d4] => { results := [.lit (.bool false)], args := [d1, d2, d3, d4] }
  | _ => none }
def WalOpensWrongFalsely : Prop := walOpensRow.holds Try.pinned (OpenSpec.ofChange walOpensWrong)

/-- 'sidinglaw05.SlotsSaves': WHATEVER THE INPUT: true; the input reads as it did. -/
def slotsSavesSpec : ChangeSpec := { name := "slotsSaves", fn := fun _ => fun
  | [d1, d2, d3, d4] => { results := [.lit (.bool true)], args := [d1, d2, d3, d4] }
  | _ => none }
def slotsSavesRow : OpenClaim := { program := "ytdpnjhooehadmaa", sum := "f622e41397bad670a2a739f6c9ae2be5fd67e0642c047bd54576c8e1e479010d", func := "siding/sidinglaw05.SlotsSaves", spec := "slotsSaves", apart := false }
def SlotsSavesSaid : Prop := slotsSavesRow.holds Try.pinned (OpenSpec.ofChange slotsSavesSpec)

/-- ITS FALSE NEIGHBOUR: 'it returns false'. Refute it at one input. -/
def slotsSavesWrong : ChangeSpec := { name := "slotsSaves", fn := fun _ => fun
  | [d1, d2, d3, d4] => { results := [.lit (.bool false)], args := [d1, d2, d3, d4] }
  | _ => none }
def SlotsSavesWrongFalsely : Prop := slotsSavesRow.holds Try.pinned (OpenSpec.ofChange slotsSavesWrong)

/-- 'sidinglaw04.WalWrites': WHATEVER THE INPUT: true; the input reads as it did. -/
def walWritesSpec : ChangeSpec := { name := "walWrites", fn := fun _ => fun
  | [d1, d2, d3] => { results := [.lit (.bool true)], args := [d1, d2, d3] }
  | _ => none }
def walWritesRow : OpenClaim := { program := "ytdpnjhooehadmaa", sum := "f622e41397bad670a2a739f6c9ae2be5fd67e0642c047bd54576c8e1e479010d", func := "siding/sidinglaw04.WalWrites", spec := "walWrites", unfollowed := true, recurses := true, apart := false }
def WalWritesSaid : Prop := walWritesRow.holds Try.pinned (OpenSpec.ofChange walWritesSpec)

/-- ITS FALSE NEIGHBOUR: 'it returns false'. Refute it at one input. -/
def walWritesWrong : ChangeSpec := { name := "walWrites", fn := fun _ => fun
  | [d1, d2, d3] => { results := [.lit (.bool false)], args := [d1, d2, d3] }
  | _ => none }
def WalWritesWrongFalsely : Prop := walWritesRow.holds Try.pinned (OpenSpec.ofChange walWritesWrong)

/-- 'sidinglaw05.SlotsNames': WHATEVER THE INPUT: true; the input reads as it did. -/
def slotsNamesSpec : ChangeSpec := { name := "slotsNames", fn := fun _ => fun
  | [] => { results := [.lit (.bool true)], args := [] }
  | _ => none }
def slotsNamesRow : OpenClaim := { program := "ytdpnjhooehadmaa", sum := "f622e41397bad670a2a739f6c9ae2be5fd67e0642c047bd54576c8e1e479010d", func := "siding/sidinglaw05.SlotsNames", spec := "slotsNames", apart := false }
def SlotsNamesSaid : Prop := slotsNamesRow.holds Try.pinned (OpenSpec.ofChange slotsNamesSpec)

/-- ITS FALSE NEIGHBOUR: 'it returns false'. Refute it at one input. -/
def slotsNamesWrong : ChangeSpec := { name := "slotsNames", fn := fun _ => fun
  | [] => { results := [.lit (.bool false)], args := [] }
  | _ => none }
def SlotsNamesWrongFalsely : Prop := slotsNamesRow.holds Try.pinned (OpenSpec.ofChange slotsNamesWrong)

/-- 'sidinglaw05.SlotsSurvive': WHATEVER THE INPUT: true; the input reads as it did. -/
def slotsSurviveSpec : ChangeSpec := { name := "slotsSurvive", fn := fun _ => fun
  | [d1, d2, d3, d4] => { results := [.lit (.bool true)], args := [d1, d2, d3, d4] }
  | _ => none }
def slotsSurviveRow : OpenClaim := { program := "ytdpnjhooehadmaa", sum := "f622e41397bad670a2a739f6c9ae2be5fd67e0642c047bd54576c8e1e479010d", func := "siding/sidinglaw05.SlotsSurvive", spec := "slotsSurvive", apart := false }
def SlotsSurviveSaid : Prop := slotsSurviveRow.holds Try.pinned (OpenSpec.ofChange slotsSurviveSpec)

/-- ITS FALSE NEIGHBOUR: 'it returns false'. Refute it at one input. -/
def slotsSurviveWrong : ChangeSpec := { name := "slotsSurvive", fn := fun _ => fun
  | [d1, d2, d3, d4] => { results := [.lit (.bool false)], args := [d1, d2, d3, d4] }
  | _ => none }
def SlotsSurviveWrongFalsely : Prop := slotsSurviveRow.holds Try.pinned (OpenSpec.ofChange slotsSurviveWrong)

/-- 'sidinglaw05.SlotsKeeps': WHATEVER THE INPUT: true; the input reads as it did. -/
def slotsKeepsSpec : ChangeSpec := { name := "slotsKeeps", fn := fun _ => fun
  | [d1, d2, d3] => { results := [.lit (.bool true)], args := [d1, d2, d3] }
  | _ => none }
def slotsKeepsRow : OpenClaim := { program := "ytdpnjhooehadmaa", sum := "f622e41397bad670a2a739f6c9ae2be5fd67e0642c047bd54576c8e1e479010d", func := "siding/sidinglaw05.SlotsKeeps", spec := "slotsKeeps", apart := false }
def SlotsKeepsSaid : Prop := slotsKeepsRow.holds Try.pinned (OpenSpec.ofChange slotsKeepsSpec)

/-- ITS FALSE NEIGHBOUR: 'it returns false'. Refute it at one input. -/
def slotsKeepsWrong : ChangeSpec := { name := "slotsKeeps", fn := fun _ => fun
  | [d1, d2, d3] => { results := [.lit (.bool false)], args := [d1, d2, d3] }
  | _ => none }
def SlotsKeepsWrongFalsely : Prop := slotsKeepsRow.holds Try.pinned (OpenSpec.ofChange slotsKeepsWrong)

/-- 'sidinglaw05.SlotsRow': WHATEVER THE INPUT: true; the input reads as it did. -/
def slotsRowSpec : ChangeSpec := { name := "slotsRow", fn := fun _ => fun
  | [d1, d2] => { results := [.lit (.bool true)], args := [d1, d2] }
  | _ => none }
def slotsRowRow : OpenClaim := { program := "ytdpnjhooehadmaa", sum := "f622e41397bad670a2a739f6c9ae2be5fd67e0642c047bd54576c8e1e479010d", func := "siding/sidinglaw05.SlotsRow", spec := "slotsRow", apart := false }
def SlotsRowSaid : Prop := slotsRowRow.holds Try.pinned (OpenSpec.ofChange slotsRowSpec)

/-- ITS FALSE NEIGHBOUR: 'it returns false'. Refute it at one input. -/
def slotsRowWrong : ChangeSpec := { name := "slotsRow", fn := fun _ => fun
  | [d1, d2] => { results := [.lit (.bool false)], args := [d1, d2] }
  | _ => none }
def SlotsRowWrongFalsely : Prop := slotsRowRow.holds Try.pinned (OpenSpec.ofChange slotsRowWrong)

/-- 'sidinglaw04.WalRecovers': WHATEVER THE INPUT: true; the input reads as it did. -/
def walRecoversSpec : ChangeSpec := { name := "walRecovers", fn := fun _ => fun
  | [d1, d2] => { results := [.lit (.bool true)], args := [d1, d2] }
  | _ => none }
def walRecoversRow : OpenClaim := { program := "ytdpnjhooehadmaa", sum := "f622e41397bad670a2a739f6c9ae2be5fd67e0642c047bd54576c8e1e479010d", func := "siding/sidinglaw04.WalRecovers", spec := "walRecovers", unfollowed := true, recurses := true, apart := false }
def WalRecoversSaid : Prop := walRecoversRow.holds Try.pinned (OpenSpec.ofChange walRecoversSpec)

/-- ITS FALSE NEIGHBOUR: 'it returns false'. Refute it at one input. -/
def walRecoversWrong : ChangeSpec := { name := "walRecovers", fn := fun _ => fun
  | [d1, d2] => { results := [.lit (.bool false)], args := [d1, d2] }
  | _ => none }
def WalRecoversWrongFalsely : Prop := walRecoversRow.holds Try.pinned (OpenSpec.ofChange walRecoversWrong)

/-- 'sidinglaw04.WalLives': WHATEVER THE INPUT: true; the input reads as it did. -/
def walLivesSpec : ChangeSpec := { name := "walLives", fn := fun _ => fun
  | [d1, d2] => { results := [.lit (.bool true)], args := [d1, d2] }
  | _ => none }
def walLivesRow : OpenClaim := { program := "ytdpnjhooehadmaa", sum := "f622e41397bad670a2a739f6c9ae2be5fd67e0642c047bd54576c8e1e479010d", func := "siding/sidinglaw04.WalLives", spec := "walLives", unfollowed := true, recurses := true, apart := false }
def WalLivesSaid : Prop := walLivesRow.holds Try.pinned (OpenSpec.ofChange walLivesSpec)

/-- ITS FALSE NEIGHBOUR: 'it returns false'. Refute it at one input. -/
def walLivesWrong : ChangeSpec := { name := "walLives", fn := fun _ => fun
  | [d1, d2] => { results := [.lit (.bool false)], args := [d1, d2] }
  | _ => none }
def WalLivesWrongFalsely : Prop := walLivesRow.holds Try.pinned (OpenSpec.ofChange walLivesWrong)

/-- 'sidinglaw04.WalNames': WHATEVER THE INPUT: true; the input reads as it did. -/
def walNamesSpec : ChangeSpec := { name := "walNames", fn := fun _ => fun
  | [] => { results := [.lit (.bool true)], args := [] }
  | _ => none }
def walNamesRow : OpenClaim := { program := "ytdpnjhooehadmaa", sum := "f622e41397bad670a2a739f6c9ae2be5fd67e0642c047bd54576c8e1e479010d", func := "siding/sidinglaw04.WalNames", spec := "walNames", unfollowed := true, recurses := true, apart := false }
def WalNamesSaid : Prop := walNamesRow.holds Try.pinned (OpenSpec.ofChange walNamesSpec)

/-- ITS FALSE NEIGHBOUR: 'it returns false'. Refute it at one input. -/
def walNamesWrong : ChangeSpec := { name := "walNames", fn := fun _ => fun
  | [] => { results := [.lit (.bool false)], args := [] }
  | _ => none }
def WalNamesWrongFalsely : Prop := walNamesRow.holds Try.pinned (OpenSpec.ofChange walNamesWrong)

/-- 'sidinglaw04.WalDrops': WHATEVER THE INPUT: true; the input reads as it did. -/
def walDropsSpec : ChangeSpec := { name := "walDrops", fn := fun _ => fun
  | [d1, d2] => { results := [.lit (.bool true)], args := [d1, d2] }
  | _ => none }
def walDropsRow : OpenClaim := { program := "ytdpnjhooehadmaa", sum := "f622e41397bad670a2a739f6c9ae2be5fd67e0642c047bd54576c8e1e479010d", func := "siding/sidinglaw04.WalDrops", spec := "walDrops", unfollowed := true, recurses := true, apart := false }
def WalDropsSaid : Prop := walDropsRow.holds Try.pinned (OpenSpec.ofChange walDropsSpec)

/-- ITS FALSE NEIGHBOUR: 'it returns false'. Refute it at one input. -/
def walDropsWrong : ChangeSpec := { name := "walDrops", fn := fun _ => fun
  | [d1, d2] => { results := [.lit (.bool false)], args := [d1, d2] }
  | _ => none }
def WalDropsWrongFalsely : Prop := walDropsRow.holds Try.pinned (OpenSpec.ofChange walDropsWrong)

/- THE SECOND FORM. 'bulk': how many values and letters a reading holds, each counted each time it is reached (what is shared counts as often as it is met; a slice's spare places count too). A statement '..UptoSaid' is the law's where the arguments, and the package variables that the reading takes, are together of bulk at most 1048576: NARROWER than '..Said'. Prove '..Said' where nothing that the law and all that it calls make is longer than what came in: it says more and counts as full. Else prove '..UptoSaid'. A law counts once. -/
mutual
def uptoBulk {H : Type} : DataW H → Nat
  | .lit (.string bytes) => bytes.length + 1
  | .lit _ => 1
  | .nil => 1
  | .ptr d => uptoBulk d + 1
  | .slice elems spare => uptoBulkAll elems + uptoBulkAll spare + 1
  | .agg parts => uptoBulkAll parts + 1
  | .iface _ d => uptoBulk d + 1
  | .map entries => uptoBulkEntries entries + 1
  | .held _ => 1
def uptoBulkAll {H : Type} : List (DataW H) → Nat
  | [] => 0
  | d :: r => uptoBulk d + uptoBulkAll r
def uptoBulkEntries {H : Type} : List (Lit × DataW H) → Nat
  | [] => 0
  | x :: r => uptoBulkEntry x + uptoBulkEntries r
def uptoBulkEntry {H : Type} : Lit × DataW H → Nat
  | (.string bytes, d) => bytes.length + uptoBulk d + 1
  | (_, d) => uptoBulk d + 1
 end
def uptoSmall : (H : Type) → List (DataW H) → Bool := fun _ ds => decide (uptoBulkAll ds ≤ 1048576)
def OpenSpec.upto (s : _root_.Go.ChangeSpec) : _root_.Go.OpenSpec := { _root_.Go.OpenSpec.ofChange s with cond := some uptoSmall }

/-- 'sidinglaw04.WalReads', WHERE WHAT IT READS IS OF BULK AT MOST 1048576: true; the input reads as it did. -/
def walReadsUptoRow : OpenClaim := { program := "ytdpnjhooehadmaa", sum := "f622e41397bad670a2a739f6c9ae2be5fd67e0642c047bd54576c8e1e479010d", func := "siding/sidinglaw04.WalReads", spec := "walReads", unfollowed := true, recurses := true, apart := false, narrowed := true }
def WalReadsUptoSaid : Prop := walReadsUptoRow.holds Try.pinned (OpenSpec.upto walReadsSpec)

/-- 'sidinglaw05.SlotsLoads', WHERE WHAT IT READS IS OF BULK AT MOST 1048576: true; the input reads as it did. -/
def slotsLoadsUptoRow : OpenClaim := { program := "ytdpnjhooehadmaa", sum := "f622e41397bad670a2a739f6c9ae2be5fd67e0642c047bd54576c8e1e479010d", func := "siding/sidinglaw05.SlotsLoads", spec := "slotsLoads", apart := false, narrowed := true }
def SlotsLoadsUptoSaid : Prop := slotsLoadsUptoRow.holds Try.pinned (OpenSpec.upto slotsLoadsSpec)

/-- 'sidinglaw04.WalOpens', WHERE WHAT IT READS IS OF BULK AT MOST 1048576: true; the input reads as it did. -/
def walOpensUptoRow : OpenClaim := { program := "ytdpnjhooehadmaa", sum := "f622e41397bad670a2a739f6c9ae2be5fd67e0642c047bd54576c8e1e479010d", func := "siding/sidinglaw04.WalOpens", spec := "walOpens", apart := false, narrowed := true }
def WalOpensUptoSaid : Prop := walOpensUptoRow.holds Try.pinned (OpenSpec.upto walOpensSpec)

/-- 'sidinglaw05.SlotsSaves', WHERE WHAT IT READS IS OF BULK AT MOST 1048576: true; the input reads as it did. -/
def slotsSavesUptoRow : OpenClaim := { program := "ytdpnjhooehadmaa", sum := "f622e41397bad670a2a739f6c9ae2be5fd67e0642c047bd54576c8e1e479010d", func := "siding/sidinglaw05.SlotsSaves", spec := "slotsSaves", apart := false, narrowed := true }
def SlotsSavesUptoSaid : Prop := slotsSavesUptoRow.holds Try.pinned (OpenSpec.upto slotsSavesSpec)

/-- 'sidinglaw04.WalWrites', WHERE WHAT IT READS IS OF BULK AT MOST 1048576: true; the input reads as it did. -/
def walWritesUptoRow : OpenClaim := { program := "ytdpnjhooehadmaa", sum := "f622e41397bad670a2a739f6c9ae2be5fd67e0642c047bd54576c8e1e479010d", func := "siding/sidinglaw04.WalWrites", spec := "walWrites", unfollowed := true, recurses := true, apart := false, narrowed := true }
def WalWritesUptoSaid : Prop := walWritesUptoRow.holds Try.pinned (OpenSpec.upto walWritesSpec)

/-- 'sidinglaw05.SlotsNames', WHERE WHAT IT READS IS OF BULK AT MOST 1048576: true; the input reads as it did. -/
def slotsNamesUptoRow : OpenClaim := { program := "ytdpnjhooehadmaa", sum := "f622e41397bad670a2a739f6c9ae2be5fd67e0642c047bd54576c8e1e479010d", func := "siding/sidinglaw05.SlotsNames", spec := "slotsNames", apart := false, narrowed := true }
def SlotsNamesUptoSaid : Prop := slotsNamesUptoRow.holds Try.pinned (OpenSpec.upto slotsNamesSpec)

/-- 'sidinglaw05.SlotsSurvive', WHERE WHAT IT READS IS OF BULK AT MOST 1048576: true; the input reads as it did. -/
def slotsSurviveUptoRow : OpenClaim := { program := "ytdpnjhooehadmaa", sum := "f622e41397bad670a2a739f6c9ae2be5fd67e0642c047bd54576c8e1e479010d", func := "siding/sidinglaw05.SlotsSurvive", spec := "slotsSurvive", apart := false, narrowed := true }
def SlotsSurviveUptoSaid : Prop := slotsSurviveUptoRow.holds Try.pinned (OpenSpec.upto slotsSurviveSpec)

/-- 'sidinglaw05.SlotsKeeps', WHERE WHAT IT READS IS OF BULK AT MOST 1048576: true; the input reads as it did. -/
def slotsKeepsUptoRow : OpenClaim := { program := "ytdpnjhooehadmaa", sum := "f622e41397bad670a2a739f6c9ae2be5fd67e0642c047bd54576c8e1e479010d", func := "siding/sidinglaw05.SlotsKeeps", spec := "slotsKeeps", apart := false, narrowed := true }
def SlotsKeepsUptoSaid : Prop := slotsKeepsUptoRow.holds Try.pinned (OpenSpec.upto slotsKeepsSpec)

/-- 'sidinglaw05.SlotsRow', WHERE WHAT IT READS IS OF BULK AT MOST 1048576: true; the input reads as it did. -/
def slotsRowUptoRow : OpenClaim := { program := "ytdpnjhooehadmaa", sum := "f622e41397bad670a2a739f6c9ae2be5fd67e0642c047bd54576c8e1e479010d", func := "siding/sidinglaw05.SlotsRow", spec := "slotsRow", apart := false, narrowed := true }
def SlotsRowUptoSaid : Prop := slotsRowUptoRow.holds Try.pinned (OpenSpec.upto slotsRowSpec)

/-- 'sidinglaw04.WalRecovers', WHERE WHAT IT READS IS OF BULK AT MOST 1048576: true; the input reads as it did. -/
def walRecoversUptoRow : OpenClaim := { program := "ytdpnjhooehadmaa", sum := "f622e41397bad670a2a739f6c9ae2be5fd67e0642c047bd54576c8e1e479010d", func := "siding/sidinglaw04.WalRecovers", spec := "walRecovers", unfollowed := true, recurses := true, apart := false, narrowed := true }
def WalRecoversUptoSaid : Prop := walRecoversUptoRow.holds Try.pinned (OpenSpec.upto walRecoversSpec)

/-- 'sidinglaw04.WalLives', WHERE WHAT IT READS IS OF BULK AT MOST 1048576: true; the input reads as it did. -/
def walLivesUptoRow : OpenClaim := { program := "ytdpnjhooehadmaa", sum := "f622e41397bad670a2a739f6c9ae2be5fd67e0642c047bd54576c8e1e479010d", func := "siding/sidinglaw04.WalLives", spec := "walLives", unfollowed := true, recurses := true, apart := false, narrowed := true }
def WalLivesUptoSaid : Prop := walLivesUptoRow.holds Try.pinned (OpenSpec.upto walLivesSpec)

/-- 'sidinglaw04.WalNames', WHERE WHAT IT READS IS OF BULK AT MOST 1048576: true; the input reads as it did. -/
def walNamesUptoRow : OpenClaim := { program := "ytdpnjhooehadmaa", sum := "f622e41397bad670a2a739f6c9ae2be5fd67e0642c047bd54576c8e1e479010d", func := "siding/sidinglaw04.WalNames", spec := "walNames", unfollowed := true, recurses := true, apart := false, narrowed := true }
def WalNamesUptoSaid : Prop := walNamesUptoRow.holds Try.pinned (OpenSpec.upto walNamesSpec)

/-- 'sidinglaw04.WalDrops', WHERE WHAT IT READS IS OF BULK AT MOST 1048576: true; the input reads as it did. -/
def walDropsUptoRow : OpenClaim := { program := "ytdpnjhooehadmaa", sum := "f622e41397bad670a2a739f6c9ae2be5fd67e0642c047bd54576c8e1e479010d", func := "siding/sidinglaw04.WalDrops", spec := "walDrops", unfollowed := true, recurses := true, apart := false, narrowed := true }
def WalDropsUptoSaid : Prop := walDropsUptoRow.holds Try.pinned (OpenSpec.upto walDropsSpec)

end Rows
end Go.Proofs.Ytdpnjhooehadmaa
