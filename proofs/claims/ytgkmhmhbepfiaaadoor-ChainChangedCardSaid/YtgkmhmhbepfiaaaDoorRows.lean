/-
  NARROWER THAN 'FOR EVERY INPUT', by the rows' own cells (each row's printed sentence says how): ShaSums: laid · ShaBlocks: laid · ShaParts: laid · ShaNames: laid · ShaOn: laid · ChainChanged: laid · ChainTells: laid · ChainProves: laid · ChainShows: laid · ChainGrows: laid · ChainNames: laid.
  DERIVED. THE GIVEN ROWS OF THIS SEAT. 11 by the template 'for every input the law returns true; each argument reads behind the call as it read before'; 0 by the template 'total and deterministic' (their statements: YtgkmhmhbepfiaaaDoorTotals.lean).
  GIVEN WITH THE SEED: the statements are not yours to turn. If you find one false, say at which input.
  Laid BY PROGRAM, IN A SANDBOX (cutbox-rows.mjs): the forced cells as the released guide's own fill.sh prints them over the translation ff85e93af50a9834… (all of the seat's roots in one cut). By AI agents, Wed Nov 11 2026. No macro, syntax, notation, axiom, sorry.
-/
import Derived.Test.YtgkmhmhbepfiaaaDoorChecked
import GoSem.Claim
import GoSem.ClaimJoined
import GoSem.ClaimMapViews
import Derived.JoinedTies
import Derived.KernelRfl
namespace Go.Proofs.YtgkmhmhbepfiaaaDoor
/- THE CELL 'sum', in the pinned program and in every row, IS THE sha256 OF THE DUMP (.gsa) THAT YtgkmhmhbepfiaaaDoorProg.lean LOADS. Nothing in Lean hashes anything: it is a label: what it is worth is what the hold of that sum in a sandbox is worth. -/
noncomputable def Tryd.pinned : Pinned := { name := "ytgkmhmhbepfiaaadoor", sum := "ff85e93af50a9834bf27ca233a5ba764695085a096cbb7bc172e570f1eff5860", checked := Tryd.checked }
namespace Rows
def none {H : Type} : Left H := { results := [], args := [] }

/- WHAT THE LISTED PACKAGE-LEVEL VARIABLES READ AS WHEN THE CALL BEGINS. Each datum BY PROGRAM (the guide's laid-datum.mjs) off the statement by which the dump's own 'gosem.cut.vars' lays the variable. In a bare row this is a premise. The card (YtgkmhmhbepfiaaaDoorCards.lean) ties it to the program's text. -/
def laid_siding_sha_constants {H : Type} : DataW H := .agg [.lit (.int .u32 1116352408), .lit (.int .u32 1899447441), .lit (.int .u32 3049323471), .lit (.int .u32 3921009573), .lit (.int .u32 961987163), .lit (.int .u32 1508970993), .lit (.int .u32 2453635748), .lit (.int .u32 2870763221), .lit (.int .u32 3624381080), .lit (.int .u32 310598401), .lit (.int .u32 607225278), .lit (.int .u32 1426881987), .lit (.int .u32 1925078388), .lit (.int .u32 2162078206), .lit (.int .u32 2614888103), .lit (.int .u32 3248222580), .lit (.int .u32 3835390401), .lit (.int .u32 4022224774), .lit (.int .u32 264347078), .lit (.int .u32 604807628), .lit (.int .u32 770255983), .lit (.int .u32 1249150122), .lit (.int .u32 1555081692), .lit (.int .u32 1996064986), .lit (.int .u32 2554220882), .lit (.int .u32 2821834349), .lit (.int .u32 2952996808), .lit (.int .u32 3210313671), .lit (.int .u32 3336571891), .lit (.int .u32 3584528711), .lit (.int .u32 113926993), .lit (.int .u32 338241895), .lit (.int .u32 666307205), .lit (.int .u32 773529912), .lit (.int .u32 1294757372), .lit (.int .u32 1396182291), .lit (.int .u32 1695183700), .lit (.int .u32 1986661051), .lit (.int .u32 2177026350), .lit (.int .u32 2456956037), .lit (.int .u32 2730485921), .lit (.int .u32 2820302411), .lit (.int .u32 3259730800), .lit (.int .u32 3345764771), .lit (.int .u32 3516065817), .lit (.int .u32 3600352804), .lit (.int .u32 4094571909), .lit (.int .u32 275423344), .lit (.int .u32 430227734), .lit (.int .u32 506948616), .lit (.int .u32 659060556), .lit (.int .u32 883997877), .lit (.int .u32 958139571), .lit (.int .u32 1322822218), .lit (.int .u32 1537002063), .lit (.int .u32 1747873779), .lit (.int .u32 1955562222), .lit (.int .u32 2024104815), .lit (.int .u32 2227730452), .lit (.int .u32 2361852424), .lit (.int .u32 2428436474), .lit (.int .u32 2756734187), .lit (.int .u32 3204031479), .lit (.int .u32 3329325298)]
def laid_siding_sha_first {H : Type} : DataW H := .agg [.lit (.int .u32 1779033703), .lit (.int .u32 3144134277), .lit (.int .u32 1013904242), .lit (.int .u32 2773480762), .lit (.int .u32 1359893119), .lit (.int .u32 2600822924), .lit (.int .u32 528734635), .lit (.int .u32 1541459225)]

/-- 'sidinglaw08.ShaSums': WHATEVER THE INPUT: true; the input reads as it did. -/
def shaSumsSpec : ChangeSpec := { name := "shaSums", fn := fun _ => fun
  | [d1, d2, d3] => { results := [.lit (.bool true)], args := [d1, d2, d3] }
  | _ => none }
def shaSumsRow : OpenClaim := { program := "ytgkmhmhbepfiaaadoor", sum := "ff85e93af50a9834bf27ca233a5ba764695085a096cbb7bc172e570f1eff5860", func := "siding/sidinglaw08.ShaSums", spec := "shaSums", named := ["siding/sha.first", "siding/sha.constants"], apart := false, laid := [("siding/sha.constants", laid_siding_sha_constants), ("siding/sha.first", laid_siding_sha_first)] }
def ShaSumsSaid : Prop := shaSumsRow.holds Tryd.pinned (OpenSpec.ofChange shaSumsSpec)

/-- ITS FALSE NEIGHBOUR: 'it returns false'. Refute it at one input. -/
def shaSumsWrong : ChangeSpec := { name := "shaSums", fn := fun _ => fun
  | [d1, d2, d3] => { results := [.lit (.bool false)], args := [d1, d2, d3] }
  | _ => none }
def ShaSumsWrongFalsely : Prop := shaSumsRow.holds Tryd.pinned (OpenSpec.ofChange shaSumsWrong)

/-- 'sidinglaw08.ShaBlocks': WHATEVER THE INPUT: true; the input reads as it did. -/
def shaBlocksSpec : ChangeSpec := { name := "shaBlocks", fn := fun _ => fun
  | [d] => { results := [.lit (.bool true)], args := [d] }
  | _ => none }
def shaBlocksRow : OpenClaim := { program := "ytgkmhmhbepfiaaadoor", sum := "ff85e93af50a9834bf27ca233a5ba764695085a096cbb7bc172e570f1eff5860", func := "siding/sidinglaw08.ShaBlocks", spec := "shaBlocks", named := ["siding/sha.first", "siding/sha.constants"], apart := false, laid := [("siding/sha.constants", laid_siding_sha_constants), ("siding/sha.first", laid_siding_sha_first)] }
def ShaBlocksSaid : Prop := shaBlocksRow.holds Tryd.pinned (OpenSpec.ofChange shaBlocksSpec)

/-- ITS FALSE NEIGHBOUR: 'it returns false'. Refute it at one input. -/
def shaBlocksWrong : ChangeSpec := { name := "shaBlocks", fn := fun _ => fun
  | [d] => { results := [.lit (.bool false)], args := [d] }
  | _ => none }
def ShaBlocksWrongFalsely : Prop := shaBlocksRow.holds Tryd.pinned (OpenSpec.ofChange shaBlocksWrong)

/-- 'sidinglaw08.ShaParts': WHATEVER THE INPUT: true; the input reads as it did. -/
def shaPartsSpec : ChangeSpec := { name := "shaParts", fn := fun _ => fun
  | [d1, d2, d3] => { results := [.lit (.bool true)], args := [d1, d2, d3] }
  | _ => none }
def shaPartsRow : OpenClaim := { program := "ytgkmhmhbepfiaaadoor", sum := "ff85e93af50a9834bf27ca233a5ba764695085a096cbb7bc172e570f1eff5860", func := "siding/sidinglaw08.ShaParts", spec := "shaParts", named := ["siding/sha.first", "siding/sha.constants"], apart := false, laid := [("siding/sha.constants", laid_siding_sha_constants), ("siding/sha.first", laid_siding_sha_first)] }
def ShaPartsSaid : Prop := shaPartsRow.holds Tryd.pinned (OpenSpec.ofChange shaPartsSpec)

/-- ITS FALSE NEIGHBOUR: 'it returns false'. Refute it at one input. -/
def shaPartsWrong : ChangeSpec := { name := "shaParts", fn := fun _ => fun
  | [d1, d2, d3] => { results := [.lit (.bool false)], args := [d1, d2, d3] }
  | _ => none }
def ShaPartsWrongFalsely : Prop := shaPartsRow.holds Tryd.pinned (OpenSpec.ofChange shaPartsWrong)

/-- 'sidinglaw08.ShaNames': WHATEVER THE INPUT: true; the input reads as it did. -/
def shaNamesSpec : ChangeSpec := { name := "shaNames", fn := fun _ => fun
  | [] => { results := [.lit (.bool true)], args := [] }
  | _ => none }
def shaNamesRow : OpenClaim := { program := "ytgkmhmhbepfiaaadoor", sum := "ff85e93af50a9834bf27ca233a5ba764695085a096cbb7bc172e570f1eff5860", func := "siding/sidinglaw08.ShaNames", spec := "shaNames", named := ["siding/sha.first", "siding/sha.constants"], apart := false, laid := [("siding/sha.constants", laid_siding_sha_constants), ("siding/sha.first", laid_siding_sha_first)] }
def ShaNamesSaid : Prop := shaNamesRow.holds Tryd.pinned (OpenSpec.ofChange shaNamesSpec)

/-- ITS FALSE NEIGHBOUR: 'it returns false'. Refute it at one input. -/
def shaNamesWrong : ChangeSpec := { name := "shaNames", fn := fun _ => fun
  | [] => { results := [.lit (.bool false)], args := [] }
  | _ => none }
def ShaNamesWrongFalsely : Prop := shaNamesRow.holds Tryd.pinned (OpenSpec.ofChange shaNamesWrong)

/-- 'sidinglaw08.ShaOn': WHATEVER THE INPUT: true; the input reads as it did. -/
def shaOnSpec : ChangeSpec := { name := "shaOn", fn := fun _ => fun
  | [d1, d2, d3] => { results := [.lit (.bool true)], args := [d1, d2, d3] }
  | _ => none }
def shaOnRow : OpenClaim := { program := "ytgkmhmhbepfiaaadoor", sum := "ff85e93af50a9834bf27ca233a5ba764695085a096cbb7bc172e570f1eff5860", func := "siding/sidinglaw08.ShaOn", spec := "shaOn", named := ["siding/sha.first", "siding/sha.constants"], apart := false, laid := [("siding/sha.constants", laid_siding_sha_constants), ("siding/sha.first", laid_siding_sha_first)] }
def ShaOnSaid : Prop := shaOnRow.holds Tryd.pinned (OpenSpec.ofChange shaOnSpec)

/-- ITS FALSE NEIGHBOUR: 'it returns false'. Refute it at one input. -/
def shaOnWrong : ChangeSpec := { name := "shaOn", fn := fun _ => fun
  | [d1, d2, d3] => { results := [.lit (.bool false)], args := [d1, d2, d3] }
  | _ => none }
def ShaOnWrongFalsely : Prop := shaOnRow.holds Tryd.pinned (OpenSpec.ofChange shaOnWrong)

/-- 'sidinglaw44.ChainChanged': WHATEVER THE INPUT: true; the input reads as it did. -/
def chainChangedSpec : ChangeSpec := { name := "chainChanged", fn := fun _ => fun
  | [d1, d2, d3, d4] => { results := [.lit (.bool true)], args := [d1, d2, d3, d4] }
  | _ => none }
def chainChangedRow : OpenClaim := { program := "ytgkmhmhbepfiaaadoor", sum := "ff85e93af50a9834bf27ca233a5ba764695085a096cbb7bc172e570f1eff5860", func := "siding/sidinglaw44.ChainChanged", spec := "chainChanged", named := ["siding/sha.first", "siding/sha.constants"], apart := false, laid := [("siding/sha.constants", laid_siding_sha_constants), ("siding/sha.first", laid_siding_sha_first)] }
def ChainChangedSaid : Prop := chainChangedRow.holds Tryd.pinned (OpenSpec.ofChange chainChangedSpec)

/-- ITS FALSE NEIGHBOUR: 'it returns false'. Refute it at one input. -/
def chainChangedWrong : ChangeSpec := { name := "chainChanged", fn := fun _ => fun
  | [d1, d2, d3, d4] => { results := [.lit (.bool false)], args := [d1, d2, d3, d4] }
  | _ => none }
def ChainChangedWrongFalsely : Prop := chainChangedRow.holds Tryd.pinned (OpenSpec.ofChange chainChangedWrong)

/-- 'sidinglaw44.ChainTells': WHATEVER THE INPUT: true; the input reads as it did. -/
def chainTellsSpec : ChangeSpec := { name := "chainTells", fn := fun _ => fun
  | [d1, d2, d3] => { results := [.lit (.bool true)], args := [d1, d2, d3] }
  | _ => none }
def chainTellsRow : OpenClaim := { program := "ytgkmhmhbepfiaaadoor", sum := "ff85e93af50a9834bf27ca233a5ba764695085a096cbb7bc172e570f1eff5860", func := "siding/sidinglaw44.ChainTells", spec := "chainTells", named := ["siding/sha.first", "siding/sha.constants"], apart := false, laid := [("siding/sha.constants", laid_siding_sha_constants), ("siding/sha.first", laid_siding_sha_first)] }
def ChainTellsSaid : Prop := chainTellsRow.holds Tryd.pinned (OpenSpec.ofChange chainTellsSpec)

/-- ITS FALSE NEIGHBOUR: 'it returns false'. Refute it at one input. -/
def chainTellsWrong : ChangeSpec := { name := "chainTells", fn := fun _ => fun
  | [d1, d2, d3] => { results := [.lit (.bool false)], args := [d1, d2, d3] }
  | _ => none }
def ChainTellsWrongFalsely : Prop := chainTellsRow.holds Tryd.pinned (OpenSpec.ofChange chainTellsWrong)

/-- 'sidinglaw44.ChainProves': WHATEVER THE INPUT: true; the input reads as it did. -/
def chainProvesSpec : ChangeSpec := { name := "chainProves", fn := fun _ => fun
  | [d1, d2, d3, d4, d5] => { results := [.lit (.bool true)], args := [d1, d2, d3, d4, d5] }
  | _ => none }
def chainProvesRow : OpenClaim := { program := "ytgkmhmhbepfiaaadoor", sum := "ff85e93af50a9834bf27ca233a5ba764695085a096cbb7bc172e570f1eff5860", func := "siding/sidinglaw44.ChainProves", spec := "chainProves", named := ["siding/sha.first", "siding/sha.constants"], apart := false, laid := [("siding/sha.constants", laid_siding_sha_constants), ("siding/sha.first", laid_siding_sha_first)] }
def ChainProvesSaid : Prop := chainProvesRow.holds Tryd.pinned (OpenSpec.ofChange chainProvesSpec)

/-- ITS FALSE NEIGHBOUR: 'it returns false'. Refute it at one input. -/
def chainProvesWrong : ChangeSpec := { name := "chainProves", fn := fun _ => fun
  | [d1, d2, d3, d4, d5] => { results := [.lit (.bool false)], args := [d1, d2, d3, d4, d5] }
  | _ => none }
def ChainProvesWrongFalsely : Prop := chainProvesRow.holds Tryd.pinned (OpenSpec.ofChange chainProvesWrong)

/-- 'sidinglaw44.ChainShows': WHATEVER THE INPUT: true; the input reads as it did. -/
def chainShowsSpec : ChangeSpec := { name := "chainShows", fn := fun _ => fun
  | [d1, d2, d3] => { results := [.lit (.bool true)], args := [d1, d2, d3] }
  | _ => none }
def chainShowsRow : OpenClaim := { program := "ytgkmhmhbepfiaaadoor", sum := "ff85e93af50a9834bf27ca233a5ba764695085a096cbb7bc172e570f1eff5860", func := "siding/sidinglaw44.ChainShows", spec := "chainShows", named := ["siding/sha.first", "siding/sha.constants"], apart := false, laid := [("siding/sha.constants", laid_siding_sha_constants), ("siding/sha.first", laid_siding_sha_first)] }
def ChainShowsSaid : Prop := chainShowsRow.holds Tryd.pinned (OpenSpec.ofChange chainShowsSpec)

/-- ITS FALSE NEIGHBOUR: 'it returns false'. Refute it at one input. -/
def chainShowsWrong : ChangeSpec := { name := "chainShows", fn := fun _ => fun
  | [d1, d2, d3] => { results := [.lit (.bool false)], args := [d1, d2, d3] }
  | _ => none }
def ChainShowsWrongFalsely : Prop := chainShowsRow.holds Tryd.pinned (OpenSpec.ofChange chainShowsWrong)

/-- 'sidinglaw44.ChainGrows': WHATEVER THE INPUT: true; the input reads as it did. -/
def chainGrowsSpec : ChangeSpec := { name := "chainGrows", fn := fun _ => fun
  | [d1, d2] => { results := [.lit (.bool true)], args := [d1, d2] }
  | _ => none }
def chainGrowsRow : OpenClaim := { program := "ytgkmhmhbepfiaaadoor", sum := "ff85e93af50a9834bf27ca233a5ba764695085a096cbb7bc172e570f1eff5860", func := "siding/sidinglaw44.ChainGrows", spec := "chainGrows", named := ["siding/sha.first", "siding/sha.constants"], apart := false, laid := [("siding/sha.constants", laid_siding_sha_constants), ("siding/sha.first", laid_siding_sha_first)] }
def ChainGrowsSaid : Prop := chainGrowsRow.holds Tryd.pinned (OpenSpec.ofChange chainGrowsSpec)

/-- ITS FALSE NEIGHBOUR: 'it returns false'. Refute it at one input. -/
def chainGrowsWrong : ChangeSpec := { name := "chainGrows", fn := fun _ => fun
  | [d1, d2] => { results := [.lit (.bool false)], args := [d1, d2] }
  | _ => none }
def ChainGrowsWrongFalsely : Prop := chainGrowsRow.holds Tryd.pinned (OpenSpec.ofChange chainGrowsWrong)

/-- 'sidinglaw44.ChainNames': WHATEVER THE INPUT: true; the input reads as it did. -/
def chainNamesSpec : ChangeSpec := { name := "chainNames", fn := fun _ => fun
  | [] => { results := [.lit (.bool true)], args := [] }
  | _ => none }
def chainNamesRow : OpenClaim := { program := "ytgkmhmhbepfiaaadoor", sum := "ff85e93af50a9834bf27ca233a5ba764695085a096cbb7bc172e570f1eff5860", func := "siding/sidinglaw44.ChainNames", spec := "chainNames", named := ["siding/sha.first", "siding/sha.constants"], apart := false, laid := [("siding/sha.constants", laid_siding_sha_constants), ("siding/sha.first", laid_siding_sha_first)] }
def ChainNamesSaid : Prop := chainNamesRow.holds Tryd.pinned (OpenSpec.ofChange chainNamesSpec)

/-- ITS FALSE NEIGHBOUR: 'it returns false'. Refute it at one input. -/
def chainNamesWrong : ChangeSpec := { name := "chainNames", fn := fun _ => fun
  | [] => { results := [.lit (.bool false)], args := [] }
  | _ => none }
def ChainNamesWrongFalsely : Prop := chainNamesRow.holds Tryd.pinned (OpenSpec.ofChange chainNamesWrong)

/- THE SECOND FORM. 'bulk': how many values and letters a reading holds, each counted each time it is reached (what is shared counts as often as it is met; a slice's spare places count too). A statement '..UptoSaid' is the law's where the arguments, and the package variables that the reading takes, are together of bulk at most 1048576: NARROWER than '..Said'. Prove '..Said' where nothing that the law and all that it calls make is longer than what came in: it says more and counts as full. Else prove '..UptoSaid'. A law counts once. -/
mutual
def uptoBulk {H : Type} : DataW H → Nat
  | .lit (.string bytes) => bytes.length + 1
  | .lit _ => 1
  | .nil => 1
  | .ptr d => uptoBulk d + 1
  | .slice elems spare => uptoBulkAll elems + uptoBulkAll spare + 1
  | .agg parts => uptoBulkAll parts + 1
  | .iface _ d => uptoBulk d + 1
  | .map entries => uptoBulkEntries entries + 1
  | .held _ => 1
def uptoBulkAll {H : Type} : List (DataW H) → Nat
  | [] => 0
  | d :: r => uptoBulk d + uptoBulkAll r
def uptoBulkEntries {H : Type} : List (Lit × DataW H) → Nat
  | [] => 0
  | x :: r => uptoBulkEntry x + uptoBulkEntries r
def uptoBulkEntry {H : Type} : Lit × DataW H → Nat
  | (.string bytes, d) => bytes.length + uptoBulk d + 1
  | (_, d) => uptoBulk d + 1
 end
def uptoSmall : (H : Type) → List (DataW H) → Bool := fun _ ds => decide (uptoBulkAll ds ≤ 1048576)
def OpenSpec.upto (s : _root_.Go.ChangeSpec) : _root_.Go.OpenSpec := { _root_.Go.OpenSpec.ofChange s with cond := some uptoSmall }

/-- 'sidinglaw08.ShaSums', WHERE WHAT IT READS IS OF BULK AT MOST 1048576: true; the input reads as it did. -/
def shaSumsUptoRow : OpenClaim := { program := "ytgkmhmhbepfiaaadoor", sum := "ff85e93af50a9834bf27ca233a5ba764695085a096cbb7bc172e570f1eff5860", func := "siding/sidinglaw08.ShaSums", spec := "shaSums", named := ["siding/sha.first", "siding/sha.constants"], apart := false, laid := [("siding/sha.constants", laid_siding_sha_constants), ("siding/sha.first", laid_siding_sha_first)], narrowed := true }
def ShaSumsUptoSaid : Prop := shaSumsUptoRow.holds Tryd.pinned (OpenSpec.upto shaSumsSpec)

/-- 'sidinglaw08.ShaBlocks', WHERE WHAT IT READS IS OF BULK AT MOST 1048576: true; the input reads as it did. -/
def shaBlocksUptoRow : OpenClaim := { program := "ytgkmhmhbepfiaaadoor", sum := "ff85e93af50a9834bf27ca233a5ba764695085a096cbb7bc172e570f1eff5860", func := "siding/sidinglaw08.ShaBlocks", spec := "shaBlocks", named := ["siding/sha.first", "siding/sha.constants"], apart := false, laid := [("siding/sha.constants", laid_siding_sha_constants), ("siding/sha.first", laid_siding_sha_first)], narrowed := true }
def ShaBlocksUptoSaid : Prop := shaBlocksUptoRow.holds Tryd.pinned (OpenSpec.upto shaBlocksSpec)

/-- 'sidinglaw08.ShaParts', WHERE WHAT IT READS IS OF BULK AT MOST 1048576: true; the input reads as it did. -/
def shaPartsUptoRow : OpenClaim := { program := "ytgkmhmhbepfiaaadoor", sum := "ff85e93af50a9834bf27ca233a5ba764695085a096cbb7bc172e570f1eff5860", func := "siding/sidinglaw08.ShaParts", spec := "shaParts", named := ["siding/sha.first", "siding/sha.constants"], apart := false, laid := [("siding/sha.constants", laid_siding_sha_constants), ("siding/sha.first", laid_siding_sha_first)], narrowed := true }
def ShaPartsUptoSaid : Prop := shaPartsUptoRow.holds Tryd.pinned (OpenSpec.upto shaPartsSpec)

/-- 'sidinglaw08.ShaNames', WHERE WHAT IT READS IS OF BULK AT MOST 1048576: true; the input reads as it did. -/
def shaNamesUptoRow : OpenClaim := { program := "ytgkmhmhbepfiaaadoor", sum := "ff85e93af50a9834bf27ca233a5ba764695085a096cbb7bc172e570f1eff5860", func := "siding/sidinglaw08.ShaNames", spec := "shaNames", named := ["siding/sha.first", "siding/sha.constants"], apart := false, laid := [("siding/sha.constants", laid_siding_sha_constants), ("siding/sha.first", laid_siding_sha_first)], narrowed := true }
def ShaNamesUptoSaid : Prop := shaNamesUptoRow.holds Tryd.pinned (OpenSpec.upto shaNamesSpec)

/-- 'sidinglaw08.ShaOn', WHERE WHAT IT READS IS OF BULK AT MOST 1048576: true; the input reads as it did. -/
def shaOnUptoRow : OpenClaim := { program := "ytgkmhmhbepfiaaadoor", sum := "ff85e93af50a9834bf27ca233a5ba764695085a096cbb7bc172e570f1eff5860", func := "siding/sidinglaw08.ShaOn", spec := "shaOn", named := ["siding/sha.first", "siding/sha.constants"], apart := false, laid := [("siding/sha.constants", laid_siding_sha_constants), ("siding/sha.first", laid_siding_sha_first)], narrowed := true }
def ShaOnUptoSaid : Prop := shaOnUptoRow.holds Tryd.pinned (OpenSpec.upto shaOnSpec)

/-- 'sidinglaw44.ChainChanged', WHERE WHAT IT READS IS OF BULK AT MOST 1048576: true; the input reads as it did. -/
def chainChangedUptoRow : OpenClaim := { program := "ytgkmhmhbepfiaaadoor", sum := "ff85e93af50a9834bf27ca233a5ba764695085a096cbb7bc172e570f1eff5860", func := "siding/sidinglaw44.ChainChanged", spec := "chainChanged", named := ["siding/sha.first", "siding/sha.constants"], apart := false, laid := [("siding/sha.constants", laid_siding_sha_constants), ("siding/sha.first", laid_siding_sha_first)], narrowed := true }
def ChainChangedUptoSaid : Prop := chainChangedUptoRow.holds Tryd.pinned (OpenSpec.upto chainChangedSpec)

/-- 'sidinglaw44.ChainTells', WHERE WHAT IT READS IS OF BULK AT MOST 1048576: true; the input reads as it did. -/
def chainTellsUptoRow : OpenClaim := { program := "ytgkmhmhbepfiaaadoor", sum := "ff85e93af50a9834bf27ca233a5ba764695085a096cbb7bc172e570f1eff5860", func := "siding/sidinglaw44.ChainTells", spec := "chainTells", named := ["siding/sha.first", "siding/sha.constants"], apart := false, laid := [("siding/sha.constants", laid_siding_sha_constants), ("siding/sha.first", laid_siding_sha_first)], narrowed := true }
def ChainTellsUptoSaid : Prop := chainTellsUptoRow.holds Tryd.pinned (OpenSpec.upto chainTellsSpec)

/-- 'sidinglaw44.ChainProves', WHERE WHAT IT READS IS OF BULK AT MOST 1048576: true; the input reads as it did. -/
def chainProvesUptoRow : OpenClaim := { program := "ytgkmhmhbepfiaaadoor", sum := "ff85e93af50a9834bf27ca233a5ba764695085a096cbb7bc172e570f1eff5860", func := "siding/sidinglaw44.ChainProves", spec := "chainProves", named := ["siding/sha.first", "siding/sha.constants"], apart := false, laid := [("siding/sha.constants", laid_siding_sha_constants), ("siding/sha.first", laid_siding_sha_first)], narrowed := true }
def ChainProvesUptoSaid : Prop := chainProvesUptoRow.holds Tryd.pinned (OpenSpec.upto chainProvesSpec)

/-- 'sidinglaw44.ChainShows', WHERE WHAT IT READS IS OF BULK AT MOST 1048576: true; the input reads as it did. -/
def chainShowsUptoRow : OpenClaim := { program := "ytgkmhmhbepfiaaadoor", sum := "ff85e93af50a9834bf27ca233a5ba764695085a096cbb7bc172e570f1eff5860", func := "siding/sidinglaw44.ChainShows", spec := "chainShows", named := ["siding/sha.first", "siding/sha.constants"], apart := false, laid := [("siding/sha.constants", laid_siding_sha_constants), ("siding/sha.first", laid_siding_sha_first)], narrowed := true }
def ChainShowsUptoSaid : Prop := chainShowsUptoRow.holds Tryd.pinned (OpenSpec.upto chainShowsSpec)

/-- 'sidinglaw44.ChainGrows', WHERE WHAT IT READS IS OF BULK AT MOST 1048576: true; the input reads as it did. -/
def chainGrowsUptoRow : OpenClaim := { program := "ytgkmhmhbepfiaaadoor", sum := "ff85e93af50a9834bf27ca233a5ba764695085a096cbb7bc172e570f1eff5860", func := "siding/sidinglaw44.ChainGrows", spec := "chainGrows", named := ["siding/sha.first", "siding/sha.constants"], apart := false, laid := [("siding/sha.constants", laid_siding_sha_constants), ("siding/sha.first", laid_siding_sha_first)], narrowed := true }
def ChainGrowsUptoSaid : Prop := chainGrowsUptoRow.holds Tryd.pinned (OpenSpec.upto chainGrowsSpec)

/-- 'sidinglaw44.ChainNames', WHERE WHAT IT READS IS OF BULK AT MOST 1048576: true; the input reads as it did. -/
def chainNamesUptoRow : OpenClaim := { program := "ytgkmhmhbepfiaaadoor", sum := "ff85e93af50a9834bf27ca233a5ba764695085a096cbb7bc172e570f1eff5860", func := "siding/sidinglaw44.ChainNames", spec := "chainNames", named := ["siding/sha.first", "siding/sha.constants"], apart := false, laid := [("siding/sha.constants", laid_siding_sha_constants), ("siding/sha.first", laid_siding_sha_first)], narrowed := true }
def ChainNamesUptoSaid : Prop := chainNamesUptoRow.holds Tryd.pinned (OpenSpec.upto chainNamesSpec)

end Rows
end Go.Proofs.YtgkmhmhbepfiaaaDoor
