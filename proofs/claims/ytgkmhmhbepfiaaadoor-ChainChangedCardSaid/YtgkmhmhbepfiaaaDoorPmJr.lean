/- ChainChanged: the walk. -/
import Derived.Test.YtgkmhmhbepfiaaaDoorPmMo
import Derived.Test.YtgkmhmhbepfiaaaDoorPmMi
set_option linter.all false
set_option maxRecDepth 100000
set_option maxHeartbeats 4000000
namespace Go.Proofs.YtgkmhmhbepfiaaaDoor.Pm
open Go Go.RowKit
attribute [go_sem] catE_length
theorem cc_rest {n : Nat} (L : List Lnk) (k p : Nat) (ch : BitVec 8) (hL : lnOK L) (hlen : L.length = n) (c1 : n ≤ 12) (hk : k < n) (hok : ∀ j, j < n → okB L j = true) (hdd : ∀ x ∈ L, x.data.length ≤ 200) (a4 : ¬ ch = 0#8) :
    Rk (Xc Tryd.prog) (retT (Xof Tryd.prog).ti [.tmp 8] [(.b true, true)]) (.seq (.keep [1, 2, 3, 9, 10, 14, 146]) (.seq kc114 (.seq kc128 .base))) .n
      ⟨tmL [(1, .t (.i .i64 k) true), (2, .t (.i .i64 p) true), (3, .t (.i .u8 ch.toNat) true), (9, .t (.b true) true), (10, .t (.sl (lnT L)) true), (14, .ptr 0 0), (146, .t (.b (decide ((p : Int) < 32))) true)], [.var (bC (befV L k))]⟩ .mk := by
  have hb32 := befV_len hL k
  have hkL : k < L.length := by omega
  have h32 := lnOK_get hL hkL
  have hd300 : ∀ x ∈ L, x.data.length ≤ 300 := fun x hx => by have := hdd x hx; omega
  have e5 : IntKind.i64.wrap ((k : Int) + 1) = ((k + 1 : Nat) : Int) := by rw [wrap_i64_id (by omega) (by omega)]; omega
  by_cases h3 : k + 1 < L.length
  · have e4 : (((k + 1 : Nat) : Int) < (L.length : Int)) = True := eq_true (by omega)
    have h132 := lnOK_get hL h3
    have hd1 := hdd _ (List.getElem_mem h3)
    have hR3 := s_ref44_Right (befV L k) k L[k + 1].data hb32 (by omega) (by omega)
    have hst := stepV_len (befV L k) k (ofV L[k + 1].data)
    have heq3 := eqCells_bN (stepV (befV L k) k (ofV L[k + 1].data)) L[k + 1].sum (by rw [hst, h132])
    generalize hgs : stepV (befV L k) k (ofV L[k + 1].data) = st at *
    have e2 : ((k : Int) - 0).toNat = k := by omega
    have e6 : ((L.length : Int) - ((k + 1 : Nat) : Int)).toNat = L.length - (k + 1) := by omega
    have e7 : (((k + 1 : Nat) : Int)).toNat = k + 1 := by omega
    have htk : List.take k (lnT L) = lnT (L.take k) := by simp [lnT, List.map_take]
    have hdr : List.take (L.length - (k + 1)) (List.drop (k + 1) (lnT L)) = lnT (L.drop (k + 1)) := by
      rw [List.take_of_length_le (by rw [List.length_drop, lnT_length]; exact Nat.le_refl _)]
      simp [lnT, List.map_drop]
    have hLk : lnOK (L.take k) := lnOK_take hL k
    have hLd : lnOK (L.drop (k + 1)) := fun x hx => hL x (List.mem_of_mem_drop hx)
    have hdk : ∀ x ∈ L.take k, x.data.length ≤ 300 := fun x hx => hd300 x (List.mem_of_mem_take hx)
    have hdd2 : ∀ x ∈ L.drop (k + 1), x.data.length ≤ 300 := fun x hx => hd300 x (List.mem_of_mem_drop hx)
    simp -implicitDefEqProofs only [go_sem, seval, sk]
    refine wcond_mk (fun hpd => ?_) (fun hpd => ?_)
    · have hp : p < 32 := by have := of_decide_eq_true hpd; omega
      simp -implicitDefEqProofs only [go_sem, seval, sk]
      refine call_k (s_ref44_Twin L hL (by omega) hd300) ?_
      have hps : p < L[k].sum.length := by omega
      have hg : (T.sl (bT L[k].data) :: bN L[k].sum)[1 + p * 1]? = some (.i .u8 (L[k].sum[p]).toNat) := by
        rw [Nat.mul_one, Nat.add_comm, List.getElem?_cons_succ]
        simp [bN, hps]
      simp -implicitDefEqProofs only [go_sem, seval, sk, lnT_get hkL, h32, hg, xor_u8]
      refine ⟨by omega, by omega, by omega, by omega, by omega, ?_⟩
      rw [row_sum hkL hps]
      have hM2 : lnOK (L.set k ⟨L[k].data, L[k].sum.set p (L[k].sum[p] ^^^ ch)⟩) := fun x hx => by
        rcases List.mem_or_eq_of_mem_set hx with h | rfl
        · exact hL x h
        · simpa using h32
      have hc2 : checkV (L.set k ⟨L[k].data, L[k].sum.set p (L[k].sum[p] ^^^ ch)⟩) = 0 := checkV_of (by rw [List.length_set]; omega) fun x hx => by
        rcases List.mem_or_eq_of_mem_set hx with h | rfl
        · exact hdd x h
        · show L[k].data.length ≤ 200
          exact hdd _ (List.getElem_mem hkL)
      have hF2 := s_chain_First _ hM2
      rw [fstV_of hc2, hc2, firstV_sum hkL (fun j hj => hok j (by omega)) (set_ne hps (xor_ne a4))] at hF2
      have t2 : ∀ x, List.take L.length (lnT (L.set k x)) = lnT (L.set k x) := fun x => List.take_of_length_le (by rw [lnT_length, List.length_set]; exact Nat.le_refl _)
      have en2 : ((k : Int) != (k : Int)) = false := by simp
      refine call_k hF2 ?_ (by simp -implicitDefEqProofs only [go_sem, seval, sk, t2, List.length_set]; rfl)
      simp -implicitDefEqProofs only [go_sem, seval, sk, en2, e5, e4, bC_take hb32, hb32, lnT_get h3, h132]
      -- S3
      refine call_d hR3 ?_
      by_cases hne : st = L[k + 1].sum
      · have hq : (st == L[k + 1].sum) = true := by rw [beq_iff_eq]; exact hne
        simp -implicitDefEqProofs only [go_sem, seval, sk, heq3, hq, id1s_bC0, lnT_get h3, h132, bN_take h132, e5, e4]
        exact ⟨hst, bN_isI _⟩
      · have hq : (st == L[k + 1].sum) = false := by rw [beq_eq_false_iff_ne]; exact hne
        simp -implicitDefEqProofs only [go_sem, seval, sk, heq3, hq, id1s_bC0, lnT_get h3, h132, bN_take h132, e5, e4]
        refine ⟨⟨hst, bN_isI _⟩, ⟨by omega, Or.inl trivial⟩, ?_⟩
        rw [e2, htk]
        refine call_d (s_ref44_Twin (L.take k) hLk (by rw [List.length_take]; omega) hdk) ?_
        simp -implicitDefEqProofs only [go_sem, seval, sk, e5, e6, e7, hdr]
        refine ⟨⟨by omega, okEs_lnT hL⟩, ?_⟩
        refine call_d (s_ref44_Twin (L.drop (k + 1)) hLd (by rw [List.length_drop]; omega) hdd2) ?_
        simp -implicitDefEqProofs only [go_sem, seval, sk, lnT_take]
        refine ⟨⟨okEs_lnT hLd, by rw [List.length_take, List.length_drop]; unfold room; omega⟩, ?_⟩
        rw [← lnT_append, ← List.length_append]
        have hne2 : stepV (befV L k) k (ofV L[k + 1].data) ≠ L[k + 1].sum := by rw [hgs]; exact hne
        have hM3 : lnOK (L.take k ++ L.drop (k + 1)) := fun x hx => by
          rcases List.mem_append.1 hx with h | h
          · exact hLk x h
          · exact hLd x h
        have hc3 : checkV (L.take k ++ L.drop (k + 1)) = 0 := checkV_of (by rw [List.length_append, List.length_take, List.length_drop]; omega) fun x hx => by
          rcases List.mem_append.1 hx with h | h
          · exact hdd x (List.mem_of_mem_take h)
          · exact hdd x (List.mem_of_mem_drop h)
        have hF3 := s_chain_First _ hM3
        rw [fstV_of hc3, hc3, firstV_out h3 (fun j hj => hok j (by omega)) hne2] at hF3
        have en3 : ((k : Int) != (k : Int)) = false := by simp
        refine call_k hF3 ?_ (by simp -implicitDefEqProofs only [go_sem, seval, sk, lnT_take])
        simp -implicitDefEqProofs only [go_sem, seval, sk, en3]
        refine call_k (s_ref44_Twin L hL (by omega) hd300) ?_
        have w1 := row_link (L := L) (k := k) h32 h132
        have w2 := row_link (L := L.set k L[k + 1]) (k := k + 1) h132 h32
        simp -implicitDefEqProofs only [go_sem, seval, sk, e5, e7, lnT_get hkL, lnT_get h3, h32, h132, bN_take h132, bN_take h32, bN_map, plains_bC, bC_take h132, bC_take h32, w1, lnT_get2 h3, w2]
        refine ⟨by omega, by omega, by omega, bC_one _, by omega, bC_one _, ?_⟩
        have hmem4 : ∀ x ∈ (L.set k L[k + 1]).set (k + 1) L[k], x ∈ L := fun x hx => by
          rcases List.mem_or_eq_of_mem_set hx with h | rfl
          · rcases List.mem_or_eq_of_mem_set h with h | rfl
            · exact h
            · exact List.getElem_mem h3
          · exact List.getElem_mem hkL
        have hM4 : lnOK ((L.set k L[k + 1]).set (k + 1) L[k]) := fun x hx => hL x (hmem4 x hx)
        have hc4 : checkV ((L.set k L[k + 1]).set (k + 1) L[k]) = 0 := checkV_of (by rw [List.length_set, List.length_set]; omega) fun x hx => hdd x (hmem4 x hx)
        have hF4 := s_chain_First _ hM4
        rw [fstV_of hc4, hc4, firstV_swap h3 (fun j hj => hok j (by omega)) hne2] at hF4
        have t4 : List.take L.length (lnT ((L.set k L[k + 1]).set (k + 1) L[k])) = lnT ((L.set k L[k + 1]).set (k + 1) L[k]) := List.take_of_length_le (by rw [lnT_length, List.length_set, List.length_set]; exact Nat.le_refl _)
        refine call_k hF4 ?_ (by simp -implicitDefEqProofs only [go_sem, seval, sk, t4, List.length_set])
        simp -implicitDefEqProofs only [go_sem, seval, sk, en3]
      -- E3
    · simp -implicitDefEqProofs only [go_sem, seval, sk, e5, e4, bC_take hb32, hb32, lnT_get h3, h132]
      -- S3
      refine call_d hR3 ?_
      by_cases hne : st = L[k + 1].sum
      · have hq : (st == L[k + 1].sum) = true := by rw [beq_iff_eq]; exact hne
        simp -implicitDefEqProofs only [go_sem, seval, sk, heq3, hq, id1s_bC0, lnT_get h3, h132, bN_take h132, e5, e4]
        exact ⟨hst, bN_isI _⟩
      · have hq : (st == L[k + 1].sum) = false := by rw [beq_eq_false_iff_ne]; exact hne
        simp -implicitDefEqProofs only [go_sem, seval, sk, heq3, hq, id1s_bC0, lnT_get h3, h132, bN_take h132, e5, e4]
        refine ⟨⟨hst, bN_isI _⟩, ⟨by omega, Or.inl trivial⟩, ?_⟩
        rw [e2, htk]
        refine call_d (s_ref44_Twin (L.take k) hLk (by rw [List.length_take]; omega) hdk) ?_
        simp -implicitDefEqProofs only [go_sem, seval, sk, e5, e6, e7, hdr]
        refine ⟨⟨by omega, okEs_lnT hL⟩, ?_⟩
        refine call_d (s_ref44_Twin (L.drop (k + 1)) hLd (by rw [List.length_drop]; omega) hdd2) ?_
        simp -implicitDefEqProofs only [go_sem, seval, sk, lnT_take]
        refine ⟨⟨okEs_lnT hLd, by rw [List.length_take, List.length_drop]; unfold room; omega⟩, ?_⟩
        rw [← lnT_append, ← List.length_append]
        have hne2 : stepV (befV L k) k (ofV L[k + 1].data) ≠ L[k + 1].sum := by rw [hgs]; exact hne
        have hM3 : lnOK (L.take k ++ L.drop (k + 1)) := fun x hx => by
          rcases List.mem_append.1 hx with h | h
          · exact hLk x h
          · exact hLd x h
        have hc3 : checkV (L.take k ++ L.drop (k + 1)) = 0 := checkV_of (by rw [List.length_append, List.length_take, List.length_drop]; omega) fun x hx => by
          rcases List.mem_append.1 hx with h | h
          · exact hdd x (List.mem_of_mem_take h)
          · exact hdd x (List.mem_of_mem_drop h)
        have hF3 := s_chain_First _ hM3
        rw [fstV_of hc3, hc3, firstV_out h3 (fun j hj => hok j (by omega)) hne2] at hF3
        have en3 : ((k : Int) != (k : Int)) = false := by simp
        refine call_k hF3 ?_ (by simp -implicitDefEqProofs only [go_sem, seval, sk, lnT_take])
        simp -implicitDefEqProofs only [go_sem, seval, sk, en3]
        refine call_k (s_ref44_Twin L hL (by omega) hd300) ?_
        have w1 := row_link (L := L) (k := k) h32 h132
        have w2 := row_link (L := L.set k L[k + 1]) (k := k + 1) h132 h32
        simp -implicitDefEqProofs only [go_sem, seval, sk, e5, e7, lnT_get hkL, lnT_get h3, h32, h132, bN_take h132, bN_take h32, bN_map, plains_bC, bC_take h132, bC_take h32, w1, lnT_get2 h3, w2]
        refine ⟨by omega, by omega, by omega, bC_one _, by omega, bC_one _, ?_⟩
        have hmem4 : ∀ x ∈ (L.set k L[k + 1]).set (k + 1) L[k], x ∈ L := fun x hx => by
          rcases List.mem_or_eq_of_mem_set hx with h | rfl
          · rcases List.mem_or_eq_of_mem_set h with h | rfl
            · exact h
            · exact List.getElem_mem h3
          · exact List.getElem_mem hkL
        have hM4 : lnOK ((L.set k L[k + 1]).set (k + 1) L[k]) := fun x hx => hL x (hmem4 x hx)
        have hc4 : checkV ((L.set k L[k + 1]).set (k + 1) L[k]) = 0 := checkV_of (by rw [List.length_set, List.length_set]; omega) fun x hx => hdd x (hmem4 x hx)
        have hF4 := s_chain_First _ hM4
        rw [fstV_of hc4, hc4, firstV_swap h3 (fun j hj => hok j (by omega)) hne2] at hF4
        have t4 : List.take L.length (lnT ((L.set k L[k + 1]).set (k + 1) L[k])) = lnT ((L.set k L[k + 1]).set (k + 1) L[k]) := List.take_of_length_le (by rw [lnT_length, List.length_set, List.length_set]; exact Nat.le_refl _)
        refine call_k hF4 ?_ (by simp -implicitDefEqProofs only [go_sem, seval, sk, t4, List.length_set])
        simp -implicitDefEqProofs only [go_sem, seval, sk, en3]
      -- E3
  · have e4 : (((k + 1 : Nat) : Int) < (L.length : Int)) = False := eq_false (by omega)
    simp -implicitDefEqProofs only [go_sem, seval, sk]
    refine wcond_mk (fun hpd => ?_) (fun hpd => ?_)
    · have hp : p < 32 := by have := of_decide_eq_true hpd; omega
      simp -implicitDefEqProofs only [go_sem, seval, sk]
      refine call_k (s_ref44_Twin L hL (by omega) hd300) ?_
      have hps : p < L[k].sum.length := by omega
      have hg : (T.sl (bT L[k].data) :: bN L[k].sum)[1 + p * 1]? = some (.i .u8 (L[k].sum[p]).toNat) := by
        rw [Nat.mul_one, Nat.add_comm, List.getElem?_cons_succ]
        simp [bN, hps]
      simp -implicitDefEqProofs only [go_sem, seval, sk, lnT_get hkL, h32, hg, xor_u8]
      refine ⟨by omega, by omega, by omega, by omega, by omega, ?_⟩
      rw [row_sum hkL hps]
      have hM2 : lnOK (L.set k ⟨L[k].data, L[k].sum.set p (L[k].sum[p] ^^^ ch)⟩) := fun x hx => by
        rcases List.mem_or_eq_of_mem_set hx with h | rfl
        · exact hL x h
        · simpa using h32
      have hc2 : checkV (L.set k ⟨L[k].data, L[k].sum.set p (L[k].sum[p] ^^^ ch)⟩) = 0 := checkV_of (by rw [List.length_set]; omega) fun x hx => by
        rcases List.mem_or_eq_of_mem_set hx with h | rfl
        · exact hdd x h
        · show L[k].data.length ≤ 200
          exact hdd _ (List.getElem_mem hkL)
      have hF2 := s_chain_First _ hM2
      rw [fstV_of hc2, hc2, firstV_sum hkL (fun j hj => hok j (by omega)) (set_ne hps (xor_ne a4))] at hF2
      have t2 : ∀ x, List.take L.length (lnT (L.set k x)) = lnT (L.set k x) := fun x => List.take_of_length_le (by rw [lnT_length, List.length_set]; exact Nat.le_refl _)
      have en2 : ((k : Int) != (k : Int)) = false := by simp
      refine call_k hF2 ?_ (by simp -implicitDefEqProofs only [go_sem, seval, sk, t2, List.length_set]; rfl)
      simp -implicitDefEqProofs only [go_sem, seval, sk, en2, e5, e4]
    · simp -implicitDefEqProofs only [go_sem, seval, sk, e5, e4]
theorem s_law44_ChainChanged (all : List (List (BitVec 8))) (at0 place : Int) (ch : BitVec 8) (hal : all.length ≤ 140737488355328) (la : -9223372036854775808 ≤ at0) (ua : at0 ≤ 9223372036854775807) (lp : -9223372036854775808 ≤ place) (up0 : place ≤ 9223372036854775807) :
    Spec Tryd.prog 8 [.sl (catE all), .i .i64 at0, .i .i64 place, .i .u8 ch.toNat] [] (.t (.b true) true) := by
  refine spec_k (holdC mixed) b_law44_ChainChanged [(.b true, true)] ?_
  simp -implicitDefEqProofs only [go_sem, seval, sk]
  refine call_k s_chainAlive ?_
  simp -implicitDefEqProofs only [go_sem, seval, sk]
  refine call_k (s_ref44_GreatBytes all hal) ?_
  cases ga : greatB all with
  | true => simp -implicitDefEqProofs only [go_sem, seval, sk]
  | false =>
    by_cases c1 : all.length ≤ 12
    · have c1' : ((12 : Int) < (all.length : Int)) = False := eq_false (by omega)
      simp -implicitDefEqProofs only [go_sem, seval, sk, c1']
      refine call_k (s_MakeT all) ?_
      by_cases he : makeE all = 0
      · obtain ⟨_, hs⟩ := makeE_0 he
        have hL := mkL_OK all all.length
        have hlen := mkL_len all all.length
        have hF := s_chain_First (mkL all all.length) hL
        rw [mk_fst hs (Nat.le_refl _) (by omega), mk_check hs (Nat.le_refl _) (by omega)] at hF
        rw [show makeV all = mkL all all.length from if_pos he, he]
        simp -implicitDefEqProofs only [go_sem, seval, sk]
        refine call_k hF ?_
        have e1 : ((all.length : Int) != (all.length : Int)) = false := by simp
        simp -implicitDefEqProofs only [go_sem, seval, sk, hlen, e1]
        by_cases a1 : at0 < 0
        · simp -implicitDefEqProofs only [go_sem, seval, sk, a1]
        · by_cases a2 : (all.length : Int) ≤ at0
          · simp -implicitDefEqProofs only [go_sem, seval, sk, a1, a2, hlen]
          · by_cases a3 : place < 0
            · simp -implicitDefEqProofs only [go_sem, seval, sk, a1, a2, a3, hlen]
            · by_cases a4 : ch = 0#8
              · subst a4
                simp -implicitDefEqProofs only [go_sem, seval, sk, a1, a2, a3, hlen]
              · have a4' : ((ch.toNat : Int) == 0) = false := by
                  rw [beq_eq_false_iff_ne]
                  intro e
                  exact a4 (BitVec.eq_of_toNat_eq (by simpa using e))
                obtain ⟨k, rfl⟩ : ∃ k : Nat, at0 = k := ⟨at0.toNat, by omega⟩
                obtain ⟨p, rfl⟩ : ∃ p : Nat, place = p := ⟨place.toNat, by omega⟩
                have hk : k < all.length := by omega
                have e2 : ((k : Int) - 0).toNat = k := by omega
                simp -implicitDefEqProofs only [go_sem, seval, sk, a1, a2, a3, a4', hlen, e2]
                refine ⟨⟨by omega, Or.inl trivial⟩, ?_⟩
                have hok : ∀ j, j < all.length → okB (mkL all all.length) j = true := fun j hj => mk_okB hj (Nat.le_refl _)
                have hdd : ∀ x ∈ mkL all all.length, x.data.length ≤ 200 := fun x hx => by
                  obtain ⟨j, hj, rfl⟩ := List.getElem_of_mem hx
                  have hj' := hj
                  rw [mkL_len] at hj'
                  rw [mkL_get hj' (Nat.le_refl _) hj]
                  exact hs j hj'
                have hH := s_chain_Head (mkL all k) (mkL_OK all k)
                rw [mk_headV hs (by omega) (by omega), mk_headE hs (by omega) (by omega), ← befV_mkL all (show k ≤ all.length by omega), ← mkL_take all (show k ≤ all.length by omega)] at hH
                clear hF
                generalize mkL all all.length = L at *
                have hb32 := befV_len hL k
                have htk : List.take k (lnT L) = lnT (L.take k) := by simp [lnT, List.map_take]
                rw [htk]
                refine call_k hH ?_
                simp -implicitDefEqProofs only [go_sem, seval, sk, bN_map, hb32, bC_take hb32]
                refine ⟨bC_one _, ?_⟩
                have heq := eqCells_bN (befV L k) (befV L k) rfl
                rw [beq_self_eq_true] at heq
                have hkL : k < L.length := by omega
                have h32 := lnOK_get hL hkL
                refine call_d (s_ref44_Before L hL k (by omega) (by omega)) ?_
                have hd300 : ∀ x ∈ L, x.data.length ≤ 300 := fun x hx => by have := hdd x hx; omega
                simp -implicitDefEqProofs only [go_sem, seval, sk, bC_take hb32, hb32, plains_bC, heq, lnT_get hkL, h32, hlen]
                refine ⟨bN_isI _, ?_⟩
                have hrest := cc_rest (n := all.length) L k p ch hL hlen c1 hk hok hdd a4
                refine wcond_mk (fun hpd => ?_) (fun hpd => ?_)
                · have hpL : p < L[k].data.length := by have := of_decide_eq_true hpd; omega
                  simp -implicitDefEqProofs only [go_sem, seval, sk]
                  refine hk4_k [⟨some 104, .move (.tmp 10), none⟩] 105 { callee := .value (.func 33), args := #[.tmp 104], argTypes := #[56] } r_law44_ChainChanged_16 rfl ?_
                  simp -implicitDefEqProofs only [go_sem, seval, sk]
                  refine hk4_call (vs := [.t (.sl (lnT L)) true]) (ts0 := [.sl (lnT L)]) (s_TwinS L hL (by omega) hd300 k (by omega)) (fun D => ?_) rfl (by simp -implicitDefEqProofs only [go_sem, seval, sk]) (by simp -implicitDefEqProofs only [go_sem, seval, sk]) (by simp -implicitDefEqProofs only [go_sem, seval, sk]) (.inl rfl)
                  simp -implicitDefEqProofs only [go_sem, seval, sk]
                  refine hk5_k [⟨some 106, .move (.tmp 16), none⟩, ⟨some 107, .move (.tmp 1), none⟩, ⟨some 108, .indexAddr 56 (.tmp 106) (.tmp 107), none⟩, ⟨some 109, .fieldAddr 64 (.tmp 108) 0, none⟩, ⟨some 110, .load 22 (.tmp 109), none⟩, ⟨some 111, .move (.tmp 2), none⟩, ⟨some 112, .indexAddr 22 (.tmp 110) (.tmp 111), none⟩, ⟨some 113, .load 5 (.tmp 112), none⟩, ⟨some 114, .move (.tmp 3), none⟩, ⟨some 115, .binOp .xor 5 (.tmp 113) (.tmp 114) 5, none⟩, ⟨some 116, .indexAddr 22 (.tmp 110) (.tmp 111), none⟩] 5 (.tmp 116) (.tmp 115) rfl ?_
                  simp -implicitDefEqProofs only [go_sem, seval, sk, lnS_at D hkL, lnS_length, bT_get hpL, h32]
                  refine ⟨by omega, hk5_store D [1, 2, 3, 9, 10, 14, 16] (n0 := (L[k].data[p].toNat : Int)) (cs := []) (b := L[k].data[p] ^^^ ch) (l2 := true) ti5 rfl (fun hp' hR2 => ?_) (by simp -implicitDefEqProofs only [go_sem, seval, sk]) (by simp -implicitDefEqProofs only [go_sem, seval, sk, xor_u8]; rfl) (fun t ht v hv => ?_) (fun b hb => ?_)⟩
                  · obtain ⟨b0, hp0, rfl, r0, hR2⟩ := HpR_cons hR2
                    obtain ⟨b1, hp1, rfl, r1, hR2⟩ := HpR_cons hR2
                    obtain rfl := HpR_nil hR2
                    obtain rfl : b0 = .var (bC (befV L k)) := r0
                    obtain ⟨es', rfl, hE⟩ := r1
                    obtain ⟨M, hMe, hlike, hpre⟩ := esR_S hE
                    clear hR2 hE
                    have hMlen : M.length = L.length := hlike.1
                    have hkM : k < M.length := by omega
                    have hM : lnOK M := fun x hx => by
                      obtain ⟨j, hj, rfl⟩ := List.getElem_of_mem hx
                      rw [(hlike.2 j (by omega) hj).1]
                      exact lnOK_get hL _
                    have hMd : ∀ x ∈ M, x.data.length ≤ 200 := fun x hx => by
                      obtain ⟨j, hj, rfl⟩ := List.getElem_of_mem hx
                      rw [(hlike.2 j (by omega) hj).2]
                      exact hdd _ (List.getElem_mem _)
                    have hMk := (hlike.2 k hkL hkM).1
                    have hM32 := lnOK_get hM hkM
                    have hMdk := hMd _ (List.getElem_mem hkM)
                    have hMc : checkV M = 0 := checkV_of (by omega) hMd
                    have hF := s_chain_First M hM
                    rw [fstV_of hMc, hMc] at hF
                    have tM : List.take L.length (lnT M) = lnT M := List.take_of_length_le (by rw [lnT_length]; omega)
                    simp -implicitDefEqProofs only [go_sem, seval, sk, hMe]
                    refine call_k hF ?_ (by simp -implicitDefEqProofs only [go_sem, seval, sk, tM, hMlen])
                    by_cases hn : firstV M = k
                    · have en : (firstV M != (k : Int)) = false := by rw [hn]; simp
                      simp -implicitDefEqProofs only [go_sem, seval, sk, en]
                      refine hk6_k [1, 2, 3, 9, 10, 14, 146] 1 ?_
                      simp -implicitDefEqProofs only [go_sem, seval, sk]
                      exact hk6_at (by simp -implicitDefEqProofs only [go_sem, seval]) hrest
                    · have en : (firstV M != (k : Int)) = true := by rw [bne_iff_ne]; exact hn
                      have hst := firstV_data hkL hkM hpre (fun j hj => hok j (by omega)) hMk hn
                      have hR := s_ref44_Right (befV L k) k M[k].data hb32 (by omega) (by omega)
                      rw [hst] at hR
                      have heq2 := eqCells_bN L[k].sum L[k].sum rfl
                      rw [beq_self_eq_true] at heq2
                      simp -implicitDefEqProofs only [go_sem, seval, sk, en, bC_take hb32, hb32, plains_bC, lnT_get hkM]
                      refine ⟨⟨by omega, by omega⟩, ?_⟩
                      refine call_d hR ?_
                      simp -implicitDefEqProofs only [go_sem, seval, sk, lnT_get hkL, h32, bN_take h32, heq2, en, id1s_bC0]
                      refine ⟨bN_isI _, ?_⟩
                      refine hk6_k [1, 2, 3, 9, 10, 14, 146] 1 ?_
                      simp -implicitDefEqProofs only [go_sem, seval, sk]
                      exact hk6_at (by simp -implicitDefEqProofs only [go_sem, seval]) hrest
                  · simp only [List.mem_cons, List.not_mem_nil, or_false] at ht
                    rcases ht with rfl | rfl | rfl | rfl | rfl | rfl | rfl <;> simp -implicitDefEqProofs only [go_sem, seval, sk] at hv <;> obtain rfl := Option.some.inj hv <;> first | trivial | rfl
                  · simp only [List.mem_cons, List.not_mem_nil, or_false] at hb
                    rcases hb with rfl | rfl
                    · intro v hv
                      simp only [bC, List.mem_map] at hv
                      obtain ⟨x, _, rfl⟩ := hv
                      rfl
                    · exact fine_lnS D k L _ _ _
                · simp -implicitDefEqProofs only [go_sem, seval, sk]
                  refine hk6_k [1, 2, 3, 9, 10, 14, 146] 1 ?_
                  simp -implicitDefEqProofs only [go_sem, seval, sk]
                  exact hk6_at (by simp -implicitDefEqProofs only [go_sem, seval]) hrest
      · have e1 : (makeE all != 0) = true := by rw [bne_iff_ne]; exact he
        rw [show makeV all = [] from if_neg he]
        simp -implicitDefEqProofs only [go_sem, seval, sk, e1]
    · have c1' : ((12 : Int) < (all.length : Int)) = True := eq_true (by omega)
      simp -implicitDefEqProofs only [go_sem, seval, sk, c1']
end Go.Proofs.YtgkmhmhbepfiaaaDoor.Pm
