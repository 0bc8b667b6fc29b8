/-
  DERIVED. GIVEN WITH THE SEED: THE CARDS: each row of YtgkmhmhbepfiaaaDoorRows.lean that lists a variable, with what it lists TIED to the program's text (the seventh form; the later family's looks); each row that meets fmt, with fmt's text TOLD by the authors' own Lean function (tested against real Go, not proved from fmt's source: count such statements apart). THE CARD IS WHAT COUNTS. Prove the row's statement (the work); the ties are given (YtgkmhmhbepfiaaaDoorTie.lean); close each card by the builder's one call (the guide's Derived/Test/ToyasCard.lean, 'card_holds'). Laid BY PROGRAM, IN A SANDBOX (cutbox-door.mjs). By AI agents, Wed Nov 11 2026. No macro, syntax, notation, axiom, sorry.
-/
import Derived.Test.YtgkmhmhbepfiaaaDoorRows
import GoSem.ClaimSeven
namespace Go.Proofs.YtgkmhmhbepfiaaaDoor
namespace Rows

/-- THE TIED CARD OF 'sidinglaw08.ShaSums'. -/
def shaSumsCard : Claim7 := { stood := { row := shaSumsRow, standIns := [], harness := (true, "d82297f0fa2b5d9d38e511ceca1ddcfe91b32c77379b3f7f6d25abed7b0c9bec"), looks := false }, kinds := [], alts := [], laidByText := true, laidKinds := [.data, .data], laidTests := true, laidLooks := .later }
def ShaSumsCardSaid : Prop := Claim7.holds Tryd.pinned (.plain (OpenSpec.ofChange shaSumsSpec)) shaSumsCard

/-- THE TIED CARD OF 'sidinglaw08.ShaBlocks'. -/
def shaBlocksCard : Claim7 := { stood := { row := shaBlocksRow, standIns := [], harness := (true, "d82297f0fa2b5d9d38e511ceca1ddcfe91b32c77379b3f7f6d25abed7b0c9bec"), looks := false }, kinds := [], alts := [], laidByText := true, laidKinds := [.data, .data], laidTests := true, laidLooks := .later }
def ShaBlocksCardSaid : Prop := Claim7.holds Tryd.pinned (.plain (OpenSpec.ofChange shaBlocksSpec)) shaBlocksCard

/-- THE TIED CARD OF 'sidinglaw08.ShaParts'. -/
def shaPartsCard : Claim7 := { stood := { row := shaPartsRow, standIns := [], harness := (true, "d82297f0fa2b5d9d38e511ceca1ddcfe91b32c77379b3f7f6d25abed7b0c9bec"), looks := false }, kinds := [], alts := [], laidByText := true, laidKinds := [.data, .data], laidTests := true, laidLooks := .later }
def ShaPartsCardSaid : Prop := Claim7.holds Tryd.pinned (.plain (OpenSpec.ofChange shaPartsSpec)) shaPartsCard

/-- THE TIED CARD OF 'sidinglaw08.ShaNames'. -/
def shaNamesCard : Claim7 := { stood := { row := shaNamesRow, standIns := [], harness := (true, "d82297f0fa2b5d9d38e511ceca1ddcfe91b32c77379b3f7f6d25abed7b0c9bec"), looks := false }, kinds := [], alts := [], laidByText := true, laidKinds := [.data, .data], laidTests := true, laidLooks := .later }
def ShaNamesCardSaid : Prop := Claim7.holds Tryd.pinned (.plain (OpenSpec.ofChange shaNamesSpec)) shaNamesCard

/-- THE TIED CARD OF 'sidinglaw08.ShaOn'. -/
def shaOnCard : Claim7 := { stood := { row := shaOnRow, standIns := [], harness := (true, "d82297f0fa2b5d9d38e511ceca1ddcfe91b32c77379b3f7f6d25abed7b0c9bec"), looks := false }, kinds := [], alts := [], laidByText := true, laidKinds := [.data, .data], laidTests := true, laidLooks := .later }
def ShaOnCardSaid : Prop := Claim7.holds Tryd.pinned (.plain (OpenSpec.ofChange shaOnSpec)) shaOnCard

/-- THE TIED CARD OF 'sidinglaw44.ChainChanged'. -/
def chainChangedCard : Claim7 := { stood := { row := chainChangedRow, standIns := [], harness := (true, "d82297f0fa2b5d9d38e511ceca1ddcfe91b32c77379b3f7f6d25abed7b0c9bec"), looks := false }, kinds := [], alts := [], laidByText := true, laidKinds := [.data, .data], laidTests := true, laidLooks := .later }
def ChainChangedCardSaid : Prop := Claim7.holds Tryd.pinned (.plain (OpenSpec.ofChange chainChangedSpec)) chainChangedCard

/-- THE TIED CARD OF 'sidinglaw44.ChainTells'. -/
def chainTellsCard : Claim7 := { stood := { row := chainTellsRow, standIns := [], harness := (true, "d82297f0fa2b5d9d38e511ceca1ddcfe91b32c77379b3f7f6d25abed7b0c9bec"), looks := false }, kinds := [], alts := [], laidByText := true, laidKinds := [.data, .data], laidTests := true, laidLooks := .later }
def ChainTellsCardSaid : Prop := Claim7.holds Tryd.pinned (.plain (OpenSpec.ofChange chainTellsSpec)) chainTellsCard

/-- THE TIED CARD OF 'sidinglaw44.ChainProves'. -/
def chainProvesCard : Claim7 := { stood := { row := chainProvesRow, standIns := [], harness := (true, "d82297f0fa2b5d9d38e511ceca1ddcfe91b32c77379b3f7f6d25abed7b0c9bec"), looks := false }, kinds := [], alts := [], laidByText := true, laidKinds := [.data, .data], laidTests := true, laidLooks := .later }
def ChainProvesCardSaid : Prop := Claim7.holds Tryd.pinned (.plain (OpenSpec.ofChange chainProvesSpec)) chainProvesCard

/-- THE TIED CARD OF 'sidinglaw44.ChainShows'. -/
def chainShowsCard : Claim7 := { stood := { row := chainShowsRow, standIns := [], harness := (true, "d82297f0fa2b5d9d38e511ceca1ddcfe91b32c77379b3f7f6d25abed7b0c9bec"), looks := false }, kinds := [], alts := [], laidByText := true, laidKinds := [.data, .data], laidTests := true, laidLooks := .later }
def ChainShowsCardSaid : Prop := Claim7.holds Tryd.pinned (.plain (OpenSpec.ofChange chainShowsSpec)) chainShowsCard

/-- THE TIED CARD OF 'sidinglaw44.ChainGrows'. -/
def chainGrowsCard : Claim7 := { stood := { row := chainGrowsRow, standIns := [], harness := (true, "d82297f0fa2b5d9d38e511ceca1ddcfe91b32c77379b3f7f6d25abed7b0c9bec"), looks := false }, kinds := [], alts := [], laidByText := true, laidKinds := [.data, .data], laidTests := true, laidLooks := .later }
def ChainGrowsCardSaid : Prop := Claim7.holds Tryd.pinned (.plain (OpenSpec.ofChange chainGrowsSpec)) chainGrowsCard

/-- THE TIED CARD OF 'sidinglaw44.ChainNames'. -/
def chainNamesCard : Claim7 := { stood := { row := chainNamesRow, standIns := [], harness := (true, "d82297f0fa2b5d9d38e511ceca1ddcfe91b32c77379b3f7f6d25abed7b0c9bec"), looks := false }, kinds := [], alts := [], laidByText := true, laidKinds := [.data, .data], laidTests := true, laidLooks := .later }
def ChainNamesCardSaid : Prop := Claim7.holds Tryd.pinned (.plain (OpenSpec.ofChange chainNamesSpec)) chainNamesCard

/-- THE SECOND FORM's CARD OF 'sidinglaw08.ShaSums'. -/
def shaSumsUptoCard : Claim7 := { stood := { row := shaSumsUptoRow, standIns := [], harness := (true, "d82297f0fa2b5d9d38e511ceca1ddcfe91b32c77379b3f7f6d25abed7b0c9bec"), looks := false }, kinds := [], alts := [], laidByText := true, laidKinds := [.data, .data], laidTests := true, laidLooks := .later }
def ShaSumsUptoCardSaid : Prop := Claim7.holds Tryd.pinned (.plain (OpenSpec.upto shaSumsSpec)) shaSumsUptoCard

/-- THE SECOND FORM's CARD OF 'sidinglaw08.ShaBlocks'. -/
def shaBlocksUptoCard : Claim7 := { stood := { row := shaBlocksUptoRow, standIns := [], harness := (true, "d82297f0fa2b5d9d38e511ceca1ddcfe91b32c77379b3f7f6d25abed7b0c9bec"), looks := false }, kinds := [], alts := [], laidByText := true, laidKinds := [.data, .data], laidTests := true, laidLooks := .later }
def ShaBlocksUptoCardSaid : Prop := Claim7.holds Tryd.pinned (.plain (OpenSpec.upto shaBlocksSpec)) shaBlocksUptoCard

/-- THE SECOND FORM's CARD OF 'sidinglaw08.ShaParts'. -/
def shaPartsUptoCard : Claim7 := { stood := { row := shaPartsUptoRow, standIns := [], harness := (true, "d82297f0fa2b5d9d38e511ceca1ddcfe91b32c77379b3f7f6d25abed7b0c9bec"), looks := false }, kinds := [], alts := [], laidByText := true, laidKinds := [.data, .data], laidTests := true, laidLooks := .later }
def ShaPartsUptoCardSaid : Prop := Claim7.holds Tryd.pinned (.plain (OpenSpec.upto shaPartsSpec)) shaPartsUptoCard

/-- THE SECOND FORM's CARD OF 'sidinglaw08.ShaNames'. -/
def shaNamesUptoCard : Claim7 := { stood := { row := shaNamesUptoRow, standIns := [], harness := (true, "d82297f0fa2b5d9d38e511ceca1ddcfe91b32c77379b3f7f6d25abed7b0c9bec"), looks := false }, kinds := [], alts := [], laidByText := true, laidKinds := [.data, .data], laidTests := true, laidLooks := .later }
def ShaNamesUptoCardSaid : Prop := Claim7.holds Tryd.pinned (.plain (OpenSpec.upto shaNamesSpec)) shaNamesUptoCard

/-- THE SECOND FORM's CARD OF 'sidinglaw08.ShaOn'. -/
def shaOnUptoCard : Claim7 := { stood := { row := shaOnUptoRow, standIns := [], harness := (true, "d82297f0fa2b5d9d38e511ceca1ddcfe91b32c77379b3f7f6d25abed7b0c9bec"), looks := false }, kinds := [], alts := [], laidByText := true, laidKinds := [.data, .data], laidTests := true, laidLooks := .later }
def ShaOnUptoCardSaid : Prop := Claim7.holds Tryd.pinned (.plain (OpenSpec.upto shaOnSpec)) shaOnUptoCard

/-- THE SECOND FORM's CARD OF 'sidinglaw44.ChainChanged'. -/
def chainChangedUptoCard : Claim7 := { stood := { row := chainChangedUptoRow, standIns := [], harness := (true, "d82297f0fa2b5d9d38e511ceca1ddcfe91b32c77379b3f7f6d25abed7b0c9bec"), looks := false }, kinds := [], alts := [], laidByText := true, laidKinds := [.data, .data], laidTests := true, laidLooks := .later }
def ChainChangedUptoCardSaid : Prop := Claim7.holds Tryd.pinned (.plain (OpenSpec.upto chainChangedSpec)) chainChangedUptoCard

/-- THE SECOND FORM's CARD OF 'sidinglaw44.ChainTells'. -/
def chainTellsUptoCard : Claim7 := { stood := { row := chainTellsUptoRow, standIns := [], harness := (true, "d82297f0fa2b5d9d38e511ceca1ddcfe91b32c77379b3f7f6d25abed7b0c9bec"), looks := false }, kinds := [], alts := [], laidByText := true, laidKinds := [.data, .data], laidTests := true, laidLooks := .later }
def ChainTellsUptoCardSaid : Prop := Claim7.holds Tryd.pinned (.plain (OpenSpec.upto chainTellsSpec)) chainTellsUptoCard

/-- THE SECOND FORM's CARD OF 'sidinglaw44.ChainProves'. -/
def chainProvesUptoCard : Claim7 := { stood := { row := chainProvesUptoRow, standIns := [], harness := (true, "d82297f0fa2b5d9d38e511ceca1ddcfe91b32c77379b3f7f6d25abed7b0c9bec"), looks := false }, kinds := [], alts := [], laidByText := true, laidKinds := [.data, .data], laidTests := true, laidLooks := .later }
def ChainProvesUptoCardSaid : Prop := Claim7.holds Tryd.pinned (.plain (OpenSpec.upto chainProvesSpec)) chainProvesUptoCard

/-- THE SECOND FORM's CARD OF 'sidinglaw44.ChainShows'. -/
def chainShowsUptoCard : Claim7 := { stood := { row := chainShowsUptoRow, standIns := [], harness := (true, "d82297f0fa2b5d9d38e511ceca1ddcfe91b32c77379b3f7f6d25abed7b0c9bec"), looks := false }, kinds := [], alts := [], laidByText := true, laidKinds := [.data, .data], laidTests := true, laidLooks := .later }
def ChainShowsUptoCardSaid : Prop := Claim7.holds Tryd.pinned (.plain (OpenSpec.upto chainShowsSpec)) chainShowsUptoCard

/-- THE SECOND FORM's CARD OF 'sidinglaw44.ChainGrows'. -/
def chainGrowsUptoCard : Claim7 := { stood := { row := chainGrowsUptoRow, standIns := [], harness := (true, "d82297f0fa2b5d9d38e511ceca1ddcfe91b32c77379b3f7f6d25abed7b0c9bec"), looks := false }, kinds := [], alts := [], laidByText := true, laidKinds := [.data, .data], laidTests := true, laidLooks := .later }
def ChainGrowsUptoCardSaid : Prop := Claim7.holds Tryd.pinned (.plain (OpenSpec.upto chainGrowsSpec)) chainGrowsUptoCard

/-- THE SECOND FORM's CARD OF 'sidinglaw44.ChainNames'. -/
def chainNamesUptoCard : Claim7 := { stood := { row := chainNamesUptoRow, standIns := [], harness := (true, "d82297f0fa2b5d9d38e511ceca1ddcfe91b32c77379b3f7f6d25abed7b0c9bec"), looks := false }, kinds := [], alts := [], laidByText := true, laidKinds := [.data, .data], laidTests := true, laidLooks := .later }
def ChainNamesUptoCardSaid : Prop := Claim7.holds Tryd.pinned (.plain (OpenSpec.upto chainNamesSpec)) chainNamesUptoCard
end Rows
end Go.Proofs.YtgkmhmhbepfiaaaDoor
