/- ChainTells: the walk. -/
import Derived.Test.YtgkmhmhbepfiaaaDoorPmMm
set_option linter.all false
set_option maxRecDepth 100000
set_option maxHeartbeats 4000000
namespace Go.Proofs.YtgkmhmhbepfiaaaDoor.Pm
open Go Go.RowKit
theorem xor255 (b : BitVec 8) : IntKind.u8.wrap ((BitVec.ofInt IntKind.u8.bits (b.toNat : Int) ^^^ BitVec.ofInt IntKind.u8.bits 255).toNat : Int) = ((b ^^^ 255#8).toNat : Int) := by
  revert b
  decide
theorem s_law44_ChainTells (l : List Lnk) (d : List (BitVec 8)) (all : List (List (BitVec 8))) (hl : lnOK l) (hll : l.length ≤ 140737488355328) (hdl : d.length ≤ 140737488355328) (hal : all.length ≤ 140737488355328) :
    Spec Tryd.prog 9 [.sl (lnT l), .sl (bT d), .sl (catE all)] [] (.t (.b true) true) := by
  refine spec_k (holdM mixed) b_law44_ChainTells [(.b true, true)] ?_
  simp -implicitDefEqProofs only [go_sem, seval, sk]
  refine call_k (s_ref44_Great l hl hll) ?_
  cases ga : greatL l with
  | true => simp -implicitDefEqProofs only [go_sem, seval, sk, ga]
  | false =>
    obtain ⟨ga1, ga2⟩ := greatL_f ga
    by_cases c1 : d.length ≤ 300
    · have c1' : ((300 : Int) < (d.length : Int)) = False := eq_false (by omega)
      simp -implicitDefEqProofs only [go_sem, seval, sk, c1']
      refine call_k (s_ref44_GreatBytes all hal) ?_
      cases gb : greatB all with
      | true => simp -implicitDefEqProofs only [go_sem, seval, sk, gb]
      | false =>
        obtain ⟨gb1, gb2⟩ := greatB_f gb
        simp -implicitDefEqProofs only [go_sem, seval, sk]
        refine call_k (s_ref44_Twin l hl (by omega) ga2) ?_
        simp -implicitDefEqProofs only [go_sem, seval, sk]
        refine call_k (s_chain_First l hl) ?_
        simp -implicitDefEqProofs only [go_sem, seval, sk]
        refine call_k (s_ref44_First l hl) ?_
        simp -implicitDefEqProofs only [go_sem, seval, sk]
        refine call_k (s_chain_Head l hl) ?_
        have h32 := headV_len hl
        simp -implicitDefEqProofs only [go_sem, seval, sk, bN_map, h32, bC_take h32]
        refine ⟨bC_one _, ?_⟩
        refine call_k (s_ref44_Head l hl) ?_
        simp -implicitDefEqProofs only [go_sem, seval, sk, bN_map, h32, bC_take h32]
        refine ⟨bC_one _, ?_⟩
        refine hk1_k [⟨some 60, .move (.tmp 0), none⟩, ⟨some 61, .move (.tmp 1), none⟩] 62 { callee := .value (.func 38), args := #[.tmp 60, .tmp 61], argTypes := #[56, 22] } r_law44_ChainTells_9 rfl ?_
        simp -implicitDefEqProofs only [go_sem, seval, sk]
        by_cases he : addE l d = 0
        · have h0 : headE l = 0 := by
            unfold addE at he
            split at he
            · assumption
            · exact absurd he (by assumption)
          have h1 : l.length < 40 := by
            unfold addE at he
            rw [if_pos h0] at he
            split at he
            · assumption
            · cases he
          have h2 : d.length ≤ 200 := by
            unfold addE at he
            rw [if_pos h0, if_pos h1] at he
            split at he
            · assumption
            · cases he
          have hw : addW l d = addL l d := if_pos he
          have hlen : (addL l d).length = l.length + 1 := by rw [addL, List.length_append]; rfl
          refine hk1_call (vs := [.t (.sl (lnT l)) false, .t (.sl (bT d)) false]) (ts0 := [.sl (lnT l), .sl (bT d)]) (s_chain_Add l hl d h0 h1 h2) (fun N => ?_) rfl (by simp -implicitDefEqProofs only [go_sem, seval, sk]) (by simp -implicitDefEqProofs only [go_sem, seval, sk]) (by simp -implicitDefEqProofs only [go_sem, seval, sk]) (.inl rfl) rfl rfl
          simp -implicitDefEqProofs only [go_sem, seval, sk, mapE_lnT]
          have hal : lnOK (addL l d) := fun x hx => by
            rcases List.mem_append.1 hx with h | h
            · exact hl x h
            · rw [List.mem_singleton.1 h]; exact stepV_len _ _ _
          refine call_m [.inn (fun b => b < N) (.sl (lnT l)), .inn (fun b => b < N) (.sl (bT d))] (s_ref44_Add l hl d) ?_ rfl (by simp -implicitDefEqProofs only [go_sem, seval, sk]) (by simp -implicitDefEqProofs only [go_sem, seval, sk])
          rw [hw, he]
          simp -implicitDefEqProofs only [go_sem, seval, sk]
          refine call_m [.inn (fun b => b < N) (.sl (catE all))] (s_MakeT all) ?_ rfl (by simp -implicitDefEqProofs only [go_sem, seval, sk]) (by simp -implicitDefEqProofs only [go_sem, seval, sk])
          simp -implicitDefEqProofs only [go_sem, seval, sk]
          refine call_m [.inn (fun b => b < N) (.sl (catE all))] (s_ref44_Make all) ?_ rfl (by simp -implicitDefEqProofs only [go_sem, seval, sk]) (by simp -implicitDefEqProofs only [go_sem, seval, sk])
          simp -implicitDefEqProofs only [go_sem, seval, sk]
          refine call_m [.inn (fun b => b < N) (.sl (lnT l))] (s_chain_Check l hl) ?_ rfl (by simp -implicitDefEqProofs only [go_sem, seval, sk]) (by simp -implicitDefEqProofs only [go_sem, seval, sk])
          simp -implicitDefEqProofs only [go_sem, seval, sk]
          refine call_m [.inn (fun b => b < N) (.sl (lnT l))] (s_ref44_Check l hl) ?_ rfl (by simp -implicitDefEqProofs only [go_sem, seval, sk]) (by simp -implicitDefEqProofs only [go_sem, seval, sk])
          have heq := eqCells_bN (headV l) (headV l) rfl
          rw [beq_self_eq_true] at heq
          have tmk : List.take (l.length + 1) (lnM (fun b => N ≤ b) (addL l d)) = lnM (fun b => N ≤ b) (addL l d) := by rw [← hlen]; exact take_lnM _ _
          have tml : List.take l.length (lnM (fun b => b < N) l) = lnM (fun b => b < N) l := take_lnM _ _
          have hsm := s_ref44_Same (addL l d) (addL l d) hal hal (by omega) (by omega)
          rw [beq_self_eq_true] at hsm
          have hmo : lnOK (makeV all) := by
            unfold makeV
            split
            · exact mkL_OK _ _
            · intro x hx; cases hx
          have hml : (makeV all).length ≤ 1000 := by
            unfold makeV
            split
            · rw [mkL_len]; omega
            · simp
          have hsm2 := s_ref44_Same (makeV all) (makeV all) hmo hmo hml hml
          rw [beq_self_eq_true] at hsm2
          simp -implicitDefEqProofs only [go_sem, seval, sk, bC_take h32, h32, plains_bC, heq]
          refine ⟨bN_isI _, ?_⟩
          refine call_m [.sl (lnM (fun b => N ≤ b) (addL l d)), .sl (lnT (addL l d))] hsm ?_ (by simp only [List.map_cons, List.map_nil, bare_lnM, bare_lnT]) (by simp -implicitDefEqProofs only [go_sem, seval, sk, tmk, lnM_length, hlen]) (by simp -implicitDefEqProofs only [go_sem, seval, sk])
          simp -implicitDefEqProofs only [go_sem, seval, sk]
          refine call_k hsm2 ?_
          simp -implicitDefEqProofs only [go_sem, seval, sk]
          refine hk3_k [0, 3] ?_
          simp -implicitDefEqProofs only [go_sem, seval, sk]
          refine loop_l (α := List Lnk × Nat) (fun a => ⟨tmL [(0, .t (.inn (fun b => b < N) (.sl (lnT l))) false), (7, .row 0 0 0 l.length), (16, .row 3 0 0 (l.length + 1)), (24, .t (.i .i64 a.2) true)], [.row 0 33 (lnM (fun b => b < N) l) true, .gone, .gone, .row 0 33 (lnM (fun b => N ≤ b) a.1) true]⟩)
            (fun a => l.length + 1 - a.2) (fun a => a.2 ≤ l.length + 1 ∧ likeL (addL l d) a.1) (addL l d, 0) (by simp -implicitDefEqProofs only [go_sem, seval]) ⟨Nat.zero_le _, likeL.refl _⟩ ?_
          rintro ⟨A, x⟩ ⟨hx, hA⟩ R hR
          simp only at hx hA
          have hAl : A.length = l.length + 1 := hA.1.trans hlen
          simp -implicitDefEqProofs only [go_sem, seval, sk]
          refine wcond_mk (fun hh => ?_) (fun hh => ?_)
          · have hx' : x < l.length + 1 := by have := of_decide_eq_true hh; omega
            have h300 : (A[x]'(by omega)).data.length ≤ 300 := by
              rw [(hA.2 x (by omega) (by omega)).2]
              rcases List.mem_append.1 (List.getElem_mem (l := addL l d) (n := x) (by omega)) with h | h
              · exact ga2 _ h
              · rw [List.mem_singleton.1 h]; exact c1
            simp -implicitDefEqProofs only [go_sem, seval, sk]
            refine loop_l (α := List Lnk × Nat) (fun a => ⟨tmL [(0, .t (.inn (fun b => b < N) (.sl (lnT l))) false), (7, .row 0 0 0 l.length), (16, .row 3 0 0 (l.length + 1)), (24, .t (.i .i64 x) true), (25, .t (.i .i64 a.2) true)], [.row 0 33 (lnM (fun b => b < N) l) true, .gone, .gone, .row 0 33 (lnM (fun b => N ≤ b) a.1) true]⟩)
              (fun a => (A[x]'(by omega)).data.length - a.2) (fun a => a.2 ≤ (A[x]'(by omega)).data.length ∧ likeL A a.1) (A, 0) (by simp -implicitDefEqProofs only [go_sem, seval]) ⟨Nat.zero_le _, likeL.refl _⟩ ?_
            rintro ⟨A', y⟩ ⟨hy, hA'⟩ R' hR'
            simp only at hy hA'
            have hAl' : A'.length = l.length + 1 := hA'.1.trans hAl
            have hxA : x < A'.length := by omega
            have hdl' : A'[x].data.length = (A[x]'(by omega)).data.length := (hA'.2 x (by omega) hxA).2
            simp -implicitDefEqProofs only [go_sem, seval, sk, lnM_get hxA, lnM_length, hAl']
            refine ⟨by omega, wcond_mk (fun hh2 => ?_) (fun hh2 => ?_)⟩
            · have hy' : y < A'[x].data.length := by have := of_decide_eq_true hh2; omega
              simp -implicitDefEqProofs only [go_sem, seval, sk]
              refine hk2_k [⟨some 144, .move (.tmp 16), none⟩, ⟨some 145, .move (.tmp 24), none⟩, ⟨some 146, .indexAddr 56 (.tmp 144) (.tmp 145), none⟩, ⟨some 147, .fieldAddr 64 (.tmp 146) 0, none⟩, ⟨some 148, .load 22 (.tmp 147), none⟩, ⟨some 149, .move (.tmp 25), none⟩, ⟨some 150, .indexAddr 22 (.tmp 148) (.tmp 149), none⟩, ⟨some 151, .load 5 (.tmp 150), none⟩, ⟨some 152, .binOp .xor 5 (.tmp 151) (.const (.int .u8 255)) 5, none⟩, ⟨some 153, .indexAddr 22 (.tmp 148) (.tmp 149), none⟩] 5 (.tmp 153) (.tmp 152) rfl ?_
              simp -implicitDefEqProofs only [go_sem, seval, sk, lnM_get hxA, lnM_length, hAl', bT_get hy']
              refine ⟨by omega, hk2_store N [0, 7, 16, 24, 25] (n0 := (A'[x].data[y].toNat : Int)) (cs := []) (b := A'[x].data[y] ^^^ 255#8) (l2 := true) ti5 rfl (fun hp' hR2 => ?_) (by simp -implicitDefEqProofs only [go_sem, seval, sk]) (by simp -implicitDefEqProofs only [go_sem, seval, sk, xor255]; rfl) (fun t ht v hv => ?_) (fun b hb => ?_)⟩
              · obtain ⟨b0, hp0, rfl, r0, hR2⟩ := HpR_cons hR2
                obtain ⟨b1, hp1, rfl, r1, hR2⟩ := HpR_cons hR2
                obtain ⟨b2, hp2, rfl, r2, hR2⟩ := HpR_cons hR2
                obtain ⟨b3, hp3, rfl, r3, hR2⟩ := HpR_cons hR2
                obtain rfl := HpR_nil hR2
                obtain ⟨e0, rfl, r0⟩ := r0
                obtain rfl := esR_low r0
                obtain rfl : b1 = .gone := r1
                obtain rfl : b2 = .gone := r2
                obtain ⟨e3, rfl, r3⟩ := r3
                obtain ⟨A2, rfl, hA2⟩ := esR_high r3
                simp -implicitDefEqProofs only [go_sem, seval, sk]
                refine hR' (A2, y + 1) _ ?_ ⟨by simp only; omega, hA'.trans hA2⟩ (by simp only; omega)
                simp -implicitDefEqProofs only [go_sem, seval, wrap_i64_id (show -9223372036854775808 ≤ (y : Int) + 1 by omega) (by omega), Int.natCast_add]
              · simp only [List.mem_cons, List.not_mem_nil, or_false] at ht
                rcases ht with rfl | rfl | rfl | rfl | rfl <;> simp -implicitDefEqProofs only [go_sem, seval, sk] at hv <;> obtain rfl := Option.some.inj hv <;> first | trivial | rfl
              · simp only [List.mem_cons, List.not_mem_nil, or_false] at hb
                rcases hb with rfl | rfl | rfl | rfl
                · exact fine_lnM (.inl rfl) _ _ _ _
                · trivial
                · trivial
                · exact fine_lnM (.inr rfl) _ _ _ _
            · simp -implicitDefEqProofs only [go_sem, seval, sk]
              refine hR (A', x + 1) _ ?_ ⟨by simp only; omega, hA.trans hA'⟩ (by simp only; omega)
              simp -implicitDefEqProofs only [go_sem, seval, wrap_i64_id (show -9223372036854775808 ≤ (x : Int) + 1 by omega) (by omega), Int.natCast_add]
          · have hS := s_ref44_Same l l hl hl (by omega) (by omega)
            rw [beq_self_eq_true] at hS
            simp -implicitDefEqProofs only [go_sem, seval, sk]
            refine call_m [.inn (fun b => b < N) (.sl (lnT l)), .sl (lnM (fun b => b < N) l)] hS ?_ (by simp only [List.map_cons, List.map_nil, bare_lnM, bare_inn]) (by simp -implicitDefEqProofs only [go_sem, seval, sk, tml, lnM_length]) (by simp -implicitDefEqProofs only [go_sem, seval, sk])
            simp -implicitDefEqProofs only [go_sem, seval, sk]
        · have hw : addW l d = [] := if_neg he
          refine hk1_call (vs := [.t (.sl (lnT l)) false, .t (.sl (bT d)) false]) (ts0 := [.sl (lnT l), .sl (bT d)]) (s_chain_AddN l hl d he) (fun N => ?_) rfl (by simp -implicitDefEqProofs only [go_sem, seval, sk]) (by simp -implicitDefEqProofs only [go_sem, seval, sk]) (by simp -implicitDefEqProofs only [go_sem, seval, sk]) (.inl rfl) rfl rfl
          simp -implicitDefEqProofs only [go_sem, seval, sk, mapE_lnT]
          have hA := s_ref44_Add l hl d
          rw [hw, show lnT [] = [] from rfl] at hA
          refine call_m [.inn (fun b => b < N) (.sl (lnT l)), .inn (fun b => b < N) (.sl (bT d))] hA ?_ rfl (by simp -implicitDefEqProofs only [go_sem, seval, sk]) (by simp -implicitDefEqProofs only [go_sem, seval, sk])
          simp -implicitDefEqProofs only [go_sem, seval, sk]
          refine call_m [.inn (fun b => b < N) (.sl (catE all))] (s_MakeT all) ?_ rfl (by simp -implicitDefEqProofs only [go_sem, seval, sk]) (by simp -implicitDefEqProofs only [go_sem, seval, sk])
          simp -implicitDefEqProofs only [go_sem, seval, sk]
          refine call_m [.inn (fun b => b < N) (.sl (catE all))] (s_ref44_Make all) ?_ rfl (by simp -implicitDefEqProofs only [go_sem, seval, sk]) (by simp -implicitDefEqProofs only [go_sem, seval, sk])
          simp -implicitDefEqProofs only [go_sem, seval, sk]
          refine call_m [.inn (fun b => b < N) (.sl (lnT l))] (s_chain_Check l hl) ?_ rfl (by simp -implicitDefEqProofs only [go_sem, seval, sk]) (by simp -implicitDefEqProofs only [go_sem, seval, sk])
          simp -implicitDefEqProofs only [go_sem, seval, sk]
          refine call_m [.inn (fun b => b < N) (.sl (lnT l))] (s_ref44_Check l hl) ?_ rfl (by simp -implicitDefEqProofs only [go_sem, seval, sk]) (by simp -implicitDefEqProofs only [go_sem, seval, sk])
          have heq := eqCells_bN (headV l) (headV l) rfl
          rw [beq_self_eq_true] at heq
          have tml : List.take l.length (lnM (fun b => b < N) l) = lnM (fun b => b < N) l := take_lnM _ _
          have hno : lnOK [] := fun x hx => by cases hx
          have hsm := s_ref44_Same [] [] hno hno (by simp) (by simp)
          rw [beq_self_eq_true, show lnT [] = [] from rfl] at hsm
          have hmo : lnOK (makeV all) := by
            unfold makeV
            split
            · exact mkL_OK _ _
            · intro x hx; cases hx
          have hml : (makeV all).length ≤ 1000 := by
            unfold makeV
            split
            · rw [mkL_len]; omega
            · simp
          have hsm2 := s_ref44_Same (makeV all) (makeV all) hmo hmo hml hml
          rw [beq_self_eq_true] at hsm2
          have hee : (addE l d != addE l d) = false := by simp
          simp -implicitDefEqProofs only [go_sem, seval, sk, bC_take h32, h32, plains_bC, heq]
          refine ⟨bN_isI _, ?_⟩
          refine call_k hsm ?_
          simp -implicitDefEqProofs only [go_sem, seval, sk, hee]
          refine call_k hsm2 ?_
          simp -implicitDefEqProofs only [go_sem, seval, sk]
          refine hk3_k [0] ?_
          simp -implicitDefEqProofs only [go_sem, seval, sk]
          refine loop_l (α := Unit) (fun _ => ⟨tmL [(0, .t (.inn (fun b => b < N) (.sl (lnT l))) false), (7, .row 0 0 0 l.length), (16, .t (.sl []) true), (24, .t (.i .i64 0) true)], [.row 0 33 (lnM (fun b => b < N) l) true, .gone, .gone]⟩)
            (fun _ => 0) (fun _ => True) () (by simp -implicitDefEqProofs only [go_sem, seval]) trivial ?_
          rintro _ _ R hR
          have hS := s_ref44_Same l l hl hl (by omega) (by omega)
          rw [beq_self_eq_true] at hS
          simp -implicitDefEqProofs only [go_sem, seval, sk]
          refine call_m [.inn (fun b => b < N) (.sl (lnT l)), .sl (lnM (fun b => b < N) l)] hS ?_ (by simp only [List.map_cons, List.map_nil, bare_lnM, bare_inn]) (by simp -implicitDefEqProofs only [go_sem, seval, sk, tml, lnM_length]) (by simp -implicitDefEqProofs only [go_sem, seval, sk])
          simp -implicitDefEqProofs only [go_sem, seval, sk]
    · have c1' : ((300 : Int) < (d.length : Int)) = True := eq_true (by omega)
      simp -implicitDefEqProofs only [go_sem, seval, sk, c1']
end Go.Proofs.YtgkmhmhbepfiaaaDoor.Pm
