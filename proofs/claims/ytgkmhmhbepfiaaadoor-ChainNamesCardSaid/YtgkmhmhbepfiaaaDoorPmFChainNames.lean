/- The statement ChainNames over the laid tables, and its tied card. -/
import Derived.Test.YtgkmhmhbepfiaaaDoorPmJq
import Derived.Test.YtgkmhmhbepfiaaaDoorPmMg
import Derived.Test.YtgkmhmhbepfiaaaDoorTie
import Derived.Test.YtgkmhmhbepfiaaaDoorCards
import Derived.SevenTiedAt
set_option linter.all false
set_option maxRecDepth 100000
namespace Go.Proofs.YtgkmhmhbepfiaaaDoor.Pm
open Go Go.RowKit Go.ChangeShapes Go.WideShapes Go.ChangeAt

theorem ChainNames_lifted (os : Os) (started : os.Started) (H : Type) (enc : TypeId × Value → H) :
    ReturnsInHanded {} Tryd.checked os 13 .any (fun w args => (Rows.chainNamesSpec.pre enc Tryd.prog Tryd.f13 [] false w args ∧ laidMetH Tryd.prog lay w) ∧ sizedMet enc Tryd.prog Tryd.f13 (OpenSpec.ofChange Rows.chainNamesSpec) false w args)
      (Rows.chainNamesSpec.post enc Tryd.prog Tryd.f13 false true false false) :=
  law_ofC (C := Tryd.checked) (s := Rows.chainNamesSpec) (d := 5) lay H enc own started (by kernel_rfl) Tryd.func13
    (ChangeSpec.witness_shaped (enc := enc) (C := Tryd.checked) (os := os) (X := fun w _ => laidMetH Tryd.prog lay w) false (World.doorLaid Tryd.prog 400 os) #[] 8 rfl (World.shaped_of_RefB (by kernel_rfl) (by kernel_rfl)) (by kernel_rfl) (by kernel_rfl) (by kernel_rfl) (door_met os _))
    rfl (tb := 4) (by kernel_rfl) Tryd.underlying4 (by kernel_rfl) laid (by kernel_rfl)
    (fun ds hd => by
        match ds, hd with
        | [], _ => rfl)
    (fun _ _ hh h => h.of_heap hh) lay_glob
    (fun xs hx => by
        obtain rfl := all2_nil (show All2 (ArgFits Tryd.prog 5) [] xs from hx)
        exact s_law44_ChainNames)
theorem ChainNames_holds : Rows.ChainNamesSaid :=
  OpenClaim.holds_of_wide 13 Tryd.f13 rfl rfl rfl rfl rfl rfl rfl ⟨rfl, rfl, rfl, rfl, rfl⟩ rfl rfl rfl rfl rfl (by kernel_rfl) Tryd.func13 (by kernel_rfl)
    (of_decide_eq_true (by kernel_rfl)) (by unfold Func.isWrapper; first | (rw [if_pos (by decide +kernel)]; kernel_rfl) | (rw [if_neg (by decide +kernel)]; exact ⟨rfl, rfl⟩))
    (fun os started H enc _ => ChainNames_lifted os started H enc)
theorem ChainNames_card : Rows.ChainNamesCardSaid :=
  Claim7.holds_tied_plain_at .later [] [.data, .data] true (true, "d82297f0fa2b5d9d38e511ceca1ddcfe91b32c77379b3f7f6d25abed7b0c9bec") false
    ChainNames_holds (fun _ h => by cases h) (by kernel_rfl) (fun _ h => by cases h) chainNames_row_tie rfl ⟨rfl, rfl⟩ (by kernel_rfl) rfl
    (fun f fn hf hfn => by
      obtain rfl : f = 13 := Option.some.inj ((show Tryd.prog.funcNamed "siding/sidinglaw44.ChainNames" = some 13 by kernel_rfl).symm.trans hf) |>.symm
      obtain rfl : fn = Tryd.f13 := (Option.some.inj (Tryd.func13.symm.trans hfn)).symm
      exact ⟨by kernel_rfl, fun j t ht => by
        rw [Tryd.params13] at ht
        simp at ht⟩)
    (by kernel_rfl)
end Go.Proofs.YtgkmhmhbepfiaaaDoor.Pm
namespace Go.Proofs.YtgkmhmhbepfiaaaDoor
theorem ChainNames_proved : Rows.ChainNamesCardSaid := Pm.ChainNames_card
#print axioms ChainNames_proved
end Go.Proofs.YtgkmhmhbepfiaaaDoor
