/- The statement ChainProves over the laid tables, and its tied card. -/
import Derived.Test.YtgkmhmhbepfiaaaDoorPmJn
import Derived.Test.YtgkmhmhbepfiaaaDoorPmMg
import Derived.Test.YtgkmhmhbepfiaaaDoorTie
import Derived.Test.YtgkmhmhbepfiaaaDoorCards
import Derived.SevenTiedAt
set_option linter.all false
set_option maxRecDepth 100000
namespace Go.Proofs.YtgkmhmhbepfiaaaDoor.Pm
open Go Go.RowKit Go.ChangeShapes Go.WideShapes Go.ChangeAt

theorem ChainProves_lifted (os : Os) (started : os.Started) (H : Type) (enc : TypeId × Value → H) :
    ReturnsInHanded {} Tryd.checked os 10 .any (fun w args => (Rows.chainProvesSpec.pre enc Tryd.prog Tryd.f10 [] false w args ∧ laidMetH Tryd.prog lay w) ∧ sizedMet enc Tryd.prog Tryd.f10 (OpenSpec.ofChange Rows.chainProvesSpec) false w args)
      (Rows.chainProvesSpec.post enc Tryd.prog Tryd.f10 false true false false) :=
  law_ofC (C := Tryd.checked) (s := Rows.chainProvesSpec) (d := 7) lay H enc own started (by kernel_rfl) Tryd.func10
    (ChangeSpec.witness_shaped (enc := enc) (C := Tryd.checked) (os := os) (X := fun w _ => laidMetH Tryd.prog lay w) false (World.doorLaid Tryd.prog 400 os) #[.slice none 0 0, .slice none 0 0, .int .i64 0, .agg #[.int .u8 0, .int .u8 0, .int .u8 0, .int .u8 0, .int .u8 0, .int .u8 0, .int .u8 0, .int .u8 0, .int .u8 0, .int .u8 0, .int .u8 0, .int .u8 0, .int .u8 0, .int .u8 0, .int .u8 0, .int .u8 0, .int .u8 0, .int .u8 0, .int .u8 0, .int .u8 0, .int .u8 0, .int .u8 0, .int .u8 0, .int .u8 0, .int .u8 0, .int .u8 0, .int .u8 0, .int .u8 0, .int .u8 0, .int .u8 0, .int .u8 0, .int .u8 0], .agg #[.int .i64 0, .int .u8 0, .int .u8 0, .int .u8 0, .int .u8 0, .int .u8 0, .int .u8 0, .int .u8 0, .int .u8 0, .int .u8 0, .int .u8 0, .int .u8 0, .int .u8 0, .int .u8 0, .int .u8 0, .int .u8 0, .int .u8 0, .int .u8 0, .int .u8 0, .int .u8 0, .int .u8 0, .int .u8 0, .int .u8 0, .int .u8 0, .int .u8 0, .int .u8 0, .int .u8 0, .int .u8 0, .int .u8 0, .int .u8 0, .int .u8 0, .int .u8 0, .int .u8 0, .slice none 0 0, .slice none 0 0]] 8 rfl (World.shaped_of_RefB (by kernel_rfl) (by kernel_rfl)) (by kernel_rfl) (by kernel_rfl) (by kernel_rfl) (door_met os _))
    rfl (tb := 4) (by kernel_rfl) Tryd.underlying4 (by kernel_rfl) laid (by kernel_rfl)
    (fun ds hd => by
        match ds, hd with
        | [a0, a1, a2, a3, a4], _ => rfl)
    (fun _ _ hh h => h.of_heap hh) lay_glob
    (fun xs hx => by
        have hx' : All2 (ArgFits Tryd.prog 7) [56, 56, 3, 26, 82] xs := hx
        clear hx
        obtain ⟨_, _, rfl, h0, hx'⟩ := all2_cons hx'
        obtain ⟨_, _, rfl, h1, hx'⟩ := all2_cons hx'
        obtain ⟨_, _, rfl, h2, hx'⟩ := all2_cons hx'
        obtain ⟨_, _, rfl, h3, hx'⟩ := all2_cons hx'
        obtain ⟨_, _, rfl, h4, hx'⟩ := all2_cons hx'
        obtain rfl := all2_nil hx'
        obtain ⟨x0, rfl, o0, n0⟩ := arg_links (d := 3) h0
        obtain ⟨x1, rfl, o1, n1⟩ := arg_links (d := 3) h1
        obtain ⟨x2, rfl, l2, u2⟩ := arg_i64 (d := 6) h2
        obtain ⟨x3, rfl, n3⟩ := arg_id (d := 5) h3
        obtain ⟨x4, rfl, wp, wl, w1, w2⟩ := arg_witness (d := 3) h4
        exact s_law44_ChainProves x0 x1 x2 x3 x4 o0 o1 n0 n1 n3 wp wl w1 w2)
theorem ChainProves_holds : Rows.ChainProvesSaid :=
  OpenClaim.holds_of_wide 10 Tryd.f10 rfl rfl rfl rfl rfl rfl rfl ⟨rfl, rfl, rfl, rfl, rfl⟩ rfl rfl rfl rfl rfl (by kernel_rfl) Tryd.func10 (by kernel_rfl)
    (of_decide_eq_true (by kernel_rfl)) (by unfold Func.isWrapper; first | (rw [if_pos (by decide +kernel)]; kernel_rfl) | (rw [if_neg (by decide +kernel)]; exact ⟨rfl, rfl⟩))
    (fun os started H enc _ => ChainProves_lifted os started H enc)
theorem ChainProves_card : Rows.ChainProvesCardSaid :=
  Claim7.holds_tied_plain_at .later [] [.data, .data] true (true, "d82297f0fa2b5d9d38e511ceca1ddcfe91b32c77379b3f7f6d25abed7b0c9bec") false
    ChainProves_holds (fun _ h => by cases h) (by kernel_rfl) (fun _ h => by cases h) chainProves_row_tie rfl ⟨rfl, rfl⟩ (by kernel_rfl) rfl
    (fun f fn hf hfn => by
      obtain rfl : f = 10 := Option.some.inj ((show Tryd.prog.funcNamed "siding/sidinglaw44.ChainProves" = some 10 by kernel_rfl).symm.trans hf) |>.symm
      obtain rfl : fn = Tryd.f10 := (Option.some.inj (Tryd.func10.symm.trans hfn)).symm
      exact ⟨by kernel_rfl, fun j t ht => by
        rw [Tryd.params10] at ht
        have hm : t ∈ [56, 56, 3, 26, 82] := by simpa using Array.mem_of_getElem? ht
        have hall : ([56, 56, 3, 26, 82].all fun u => !Tryd.prog.wantsStandIn u) = true := by kernel_rfl
        exact (show Tryd.prog.wantsStandIn t = false by simpa using List.all_eq_true.1 hall t hm)⟩)
    (by kernel_rfl)
end Go.Proofs.YtgkmhmhbepfiaaaDoor.Pm
namespace Go.Proofs.YtgkmhmhbepfiaaaDoor
theorem ChainProves_proved : Rows.ChainProvesCardSaid := Pm.ChainProves_card
#print axioms ChainProves_proved
end Go.Proofs.YtgkmhmhbepfiaaaDoor
