/- journal: the statement JournalNames. No law of Go's is stated here. -/
import Derived.Test.YtlfpafdkegnkoaaPmId
set_option linter.all false
set_option maxRecDepth 100000
set_option maxHeartbeats 16000000
namespace Go.Proofs.Ytlfpafdkegnkoaa.Pm
open Go Go.RowKit
def jnF (st : Nat) : S := ⟨tmL [(1, .ptr 0 0), (2, .ptr 1 0), (3, .t (.i .i64 st) true)], [.var [.t (.i .i64 5) true, .t (.i .i64 (-2)) true, .t (.i .i64 0) true, .t (.i .i64 0) true, .t (.i .i64 0) true, .t (.i .i64 0) true, .t (.i .i64 0) true, .t (.i .i64 0) true], .var [.t (.i .i64 12) true, .t (.i .i64 (-2)) true, .t (.i .i64 0) true, .t (.i .i64 0) true, .t (.i .i64 0) true, .t (.i .i64 0) true, .t (.i .i64 0) true, .t (.i .i64 0) true]]⟩
theorem clT_b : clT [5, -2, 0, 0, 0, 0, 0, 0] = [.i .i64 5, .i .i64 (-2), .i .i64 0, .i .i64 0, .i .i64 0, .i .i64 0, .i .i64 0, .i .i64 0] := rfl
theorem clT_a : clT [12, -2, 0, 0, 0, 0, 0, 0] = [.i .i64 12, .i .i64 (-2), .i .i64 0, .i .i64 0, .i .i64 0, .i .i64 0, .i .i64 0, .i .i64 0] := rfl
theorem mv_0 : mvT [] = [] := rfl
theorem mv_1 : mvT [(0, 1), (0, 1)] = [[.i .i64 0, .i .i64 1], [.i .i64 0, .i .i64 1]] := rfl
theorem mv_2 : mvT [(0, 1), (0, -1000000), (7, 3)] = [[.i .i64 0, .i .i64 1], [.i .i64 0, .i .i64 (-1000000)], [.i .i64 7, .i .i64 3]] := rfl
theorem clT_t : clT [999999999, 0, 0, 0, 0, 0, 0, 0] = [.i .i64 999999999, .i .i64 0, .i .i64 0, .i .i64 0, .i .i64 0, .i .i64 0, .i .i64 0, .i .i64 0] := rfl
theorem clT_m : clT [0, 0, -1000000001, 0, 0, 0, 0, 0] = [.i .i64 0, .i .i64 0, .i .i64 (-1000000001), .i .i64 0, .i .i64 0, .i .i64 0, .i .i64 0, .i .i64 0] := rfl
theorem clT_r : clT [999000000, 0, 0, 0, 0, 0, 0, 3] = [.i .i64 999000000, .i .i64 0, .i .i64 0, .i .i64 0, .i .i64 0, .i .i64 0, .i .i64 0, .i .i64 3] := rfl
theorem clT_w : clT [12, -2, 0, 0, 0, 0, 0, 1] = [.i .i64 12, .i .i64 (-2), .i .i64 0, .i .i64 0, .i .i64 0, .i .i64 0, .i .i64 0, .i .i64 1] := rfl
theorem eqz : eqCells [.i .i64 0, .i .i64 0, .i .i64 0, .i .i64 0, .i .i64 0, .i .i64 0, .i .i64 0, .i .i64 0] [.i .i64 0, .i .i64 0, .i .i64 0, .i .i64 0, .i .i64 0, .i .i64 0, .i .i64 0, .i .i64 0] = some true := rfl
theorem eqx : eqCells [.i .i64 999000000, .i .i64 0, .i .i64 0, .i .i64 0, .i .i64 0, .i .i64 0, .i .i64 0, .i .i64 3] [.i .i64 999000000, .i .i64 0, .i .i64 0, .i .i64 0, .i .i64 0, .i .i64 0, .i .i64 0, .i .i64 3] = some true := rfl
theorem clT_1 : clT [1, 0, 0, 0, 0, 0, 0, 0] = [.i .i64 1, .i .i64 0, .i .i64 0, .i .i64 0, .i .i64 0, .i .i64 0, .i .i64 0, .i .i64 0] := rfl
theorem clT_2 : clT [2, 0, 0, 0, 0, 0, 0, 0] = [.i .i64 2, .i .i64 0, .i .i64 0, .i .i64 0, .i .i64 0, .i .i64 0, .i .i64 0, .i .i64 0] := rfl
theorem law_JournalNames : Spec Try.prog 4 [] [] (.t (.b true) true) := by
  refine spec_k (hold mixed) b_law06_JournalNames [(.b true, true)] ?_
  have hG := s_law06_given
  have hal := s_law06_alive
  have hcr := fun (st : Nat) (h : st < 6) => jn_back st 0 (by omega) (by omega) (by decide) (by decide) (back_all ⟨st, h⟩)
  obtain ⟨hc0, hc1, hc2, hc4⟩ := jn_c0
  obtain ⟨sa, wa, _, _, _, ca, ra⟩ := jn_back 3 84 (by decide) (by decide) (by decide) (by decide) back_84
  obtain ⟨sb, wb, _, _, _, cb, rb⟩ := jn_back 3 83 (by decide) (by decide) (by decide) (by decide) back_83
  have cg := jn_bad 3 85 (by decide) (by decide) (by decide) (by decide) J4 fineJ4 2 jn_c385
  have ch := jn_bad 0 22 (by decide) (by decide) (by decide) (by decide) J4 fineJ4 2 jn_c022
  have ci := jn_bad 1 1 (by decide) (by decide) (by decide) (by decide) J4 fineJ4 2 jn_c11
  have ck := jn_bad 5 (-1) (by decide) (by decide) (by decide) (by decide) J4 fineJ4 2 jn_c5m
  have cl := jn_bad 6 0 (by decide) (by decide) (by decide) (by decide) J4 fineJ4 2 jn_c60
  have cm := jn_bad (-1) 0 (by decide) (by decide) (by decide) (by decide) J4 fineJ4 2 jn_cm0
  have dn := s_journal_New 20001
  rw [jn_newg] at dn
  have d_o := jn_do J4 fineJ4 (8, 0) (by decide) (by decide) _ _ _ jn_d8
  have d_p := jn_do J4 fineJ4 (-1, 0) (by decide) (by decide) _ _ _ jn_dm
  have d_q := jn_do J4 fineJ4 (0, 1000001) (by decide) (by decide) _ _ _ jn_da
  have dr := s_journal_New 50
  rw [jn_new50] at dr
  have d_s := jn_do K0 fineK0 (0, 1) (by decide) (by decide) _ _ _ jn_K1
  have d_t := s_journal_Save K1 fineK1
  rw [jn_s1] at d_t
  have cu := jn_bad 2 0 (by decide) (by decide) (by decide) (by decide) K1 fineK1 18 jn_c20
  obtain ⟨sv, wv, cv⟩ := jn_ok 1 0 (by decide) (by decide) (by decide) (by decide) K1 fineK1 0 jn_c10.1 jn_c10.2
  have d_w := jn_do K1 fineK1 (0, 1) (by decide) (by decide) _ _ _ jn_K2
  have d_x := jn_do K2 fineK2 (0, 1) (by decide) (by decide) _ _ _ jn_K3
  have ay := s_journal_Apply [999999999, 0, 0, 0, 0, 0, 0, 0] rfl [(0, 1), (0, 1)] (by simp)
  rw [jn_a1] at ay
  have az := s_journal_Apply [0, 0, -1000000001, 0, 0, 0, 0, 0] rfl [] (by simp)
  rw [jn_a2] at az
  have ax := s_journal_Apply [999999999, 0, 0, 0, 0, 0, 0, 0] rfl [(0, 1), (0, -1000000), (7, 3)] (by simp)
  rw [jn_a3] at ax
  have sy := s_journal_Sync Kw fineKw
  rw [jn_sy] at sy
  have kl := s_journal_Check Kl fineKl
  rw [jn_kl] at kl
  have ke := s_journal_Check Ke fineKe
  rw [jn_ke] at ke
  have kz := s_journal_Check zeroJ fineZ
  rw [jn_kz] at kz
  have rd := s_journal_Recover Kd jn_Kd.1 jn_Kd.2.1 jn_Kd.2.2
  rw [jn_rd] at rd
  rw [if_neg (by decide), if_neg (by decide)] at ra rb
  simp only [Kw, Kl, Ke, Kd] at sy kl ke rd
  rw [zeroJ_cells] at kz
  generalize J4 = j4 at *
  obtain ⟨s4, w4, c4⟩ := j4
  simp only at hc4 sy kl ke rd
  subst hc4
  generalize K0 = k0 at *
  obtain ⟨s0, w0, c0⟩ := k0
  simp only at hc0
  subst hc0
  generalize K1 = k1 at *
  obtain ⟨s1, w1, c1⟩ := k1
  simp only at hc1
  subst hc1
  generalize K2 = k2 at *
  obtain ⟨s2, w2, c2⟩ := k2
  simp only at hc2
  subst hc2
  simp -implicitDefEqProofs only [go_sem, seval]
  refine loop_l (α := Nat) jnF (fun k => 6 - k) (fun k => k ≤ 6) 0 (by simp -implicitDefEqProofs only [go_sem, seval, jnF]) (by omega) ?_
  rintro st hst R hR
  simp -implicitDefEqProofs only [go_sem, seval, jnF]
  refine wcond_mk (fun h => ?_) (fun h => ?_)
  · have h5 : st ≤ 5 := by have := of_decide_eq_true h; omega
    obtain ⟨s, w, e0, e1, e2, hc, hr⟩ := hcr st (by omega)
    simp -implicitDefEqProofs only [go_sem, seval]
    first | refine call_k hG ?_ | refine call_d hG ?_
    simp -implicitDefEqProofs only [go_sem, seval, Jr.cells, z8_T, clT_a, clT_b, clT_1, clT_2, zeroJ_cells, opJ, opJ3, bT_nil8, mT, eqx, mv_0, mv_1, mv_2, clT_t, clT_m, clT_r, clT_w]
    first | refine call_k hc ?_ (by simp -implicitDefEqProofs only [go_sem, seval, Jr.cells, z8_T, clT_a, clT_b, clT_1, clT_2, zeroJ_cells, opJ, opJ3, bT_nil8, mT, eqx, mv_0, mv_1, mv_2, clT_t, clT_m, clT_r, clT_w]) (by simp -implicitDefEqProofs only [go_sem, seval, Jr.cells, z8_T, clT_a, clT_b, clT_1, clT_2, zeroJ_cells, opJ, opJ3, bT_nil8, mT, eqx, mv_0, mv_1, mv_2, clT_t, clT_m, clT_r, clT_w]) | refine call_d hc ?_ (by simp -implicitDefEqProofs only [go_sem, seval, Jr.cells, z8_T, clT_a, clT_b, clT_1, clT_2, zeroJ_cells, opJ, opJ3, bT_nil8, mT, eqx, mv_0, mv_1, mv_2, clT_t, clT_m, clT_r, clT_w]) (by simp -implicitDefEqProofs only [go_sem, seval, Jr.cells, z8_T, clT_a, clT_b, clT_1, clT_2, zeroJ_cells, opJ, opJ3, bT_nil8, mT, eqx, mv_0, mv_1, mv_2, clT_t, clT_m, clT_r, clT_w])
    simp -implicitDefEqProofs only [go_sem, seval, Jr.cells, z8_T, clT_a, clT_b, clT_1, clT_2, zeroJ_cells, opJ, opJ3, bT_nil8, mT, eqx, mv_0, mv_1, mv_2, clT_t, clT_m, clT_r, clT_w]
    refine wcond_mk (fun b0 => ?_) (fun b0 => ?_)
    · have b1 : (st : Int) = 0 := beq_iff_eq.mp b0
      rw [if_pos b1, if_pos b1] at hr
      simp -implicitDefEqProofs only [go_sem, seval]
      first | refine call_k hr ?_ (by simp -implicitDefEqProofs only [go_sem, seval, Jr.cells, z8_T, clT_a, clT_b, clT_1, clT_2, zeroJ_cells, opJ, opJ3, bT_nil8, mT, eqx, mv_0, mv_1, mv_2, clT_t, clT_m, clT_r, clT_w]) | refine call_d hr ?_ (by simp -implicitDefEqProofs only [go_sem, seval, Jr.cells, z8_T, clT_a, clT_b, clT_1, clT_2, zeroJ_cells, opJ, opJ3, bT_nil8, mT, eqx, mv_0, mv_1, mv_2, clT_t, clT_m, clT_r, clT_w])
      simp -implicitDefEqProofs only [go_sem, seval, e0, e1, e2, eqz]
      refine hR (st + 1) _ ?_ (by omega) (by omega)
      simp -implicitDefEqProofs only [go_sem, seval, jnF, wrap_i64_id (show -9223372036854775808 ≤ (st : Int) + 1 by omega) (by omega), Int.natCast_add]
    · have b1 : ¬(st : Int) = 0 := by rw [beq_eq_false_iff_ne] at b0; exact b0
      rw [if_neg b1, if_neg b1] at hr
      simp -implicitDefEqProofs only [go_sem, seval]
      first | refine call_k hr ?_ (by simp -implicitDefEqProofs only [go_sem, seval, Jr.cells, z8_T, clT_a, clT_b, clT_1, clT_2, zeroJ_cells, opJ, opJ3, bT_nil8, mT, eqx, mv_0, mv_1, mv_2, clT_t, clT_m, clT_r, clT_w]) | refine call_d hr ?_ (by simp -implicitDefEqProofs only [go_sem, seval, Jr.cells, z8_T, clT_a, clT_b, clT_1, clT_2, zeroJ_cells, opJ, opJ3, bT_nil8, mT, eqx, mv_0, mv_1, mv_2, clT_t, clT_m, clT_r, clT_w])
      simp -implicitDefEqProofs only [go_sem, seval, e0, e1, e2, eqz]
      refine hR (st + 1) _ ?_ (by omega) (by omega)
      simp -implicitDefEqProofs only [go_sem, seval, jnF, wrap_i64_id (show -9223372036854775808 ≤ (st : Int) + 1 by omega) (by omega), Int.natCast_add]
  · have h6 : st = 6 := by have := of_decide_eq_false h; omega
    subst h6
    simp -implicitDefEqProofs only [go_sem, seval]
    first | refine call_k hG ?_ | refine call_d hG ?_
    simp -implicitDefEqProofs only [go_sem, seval, Jr.cells, z8_T, clT_a, clT_b, clT_1, clT_2, zeroJ_cells, opJ, opJ3, bT_nil8, mT, eqx, mv_0, mv_1, mv_2, clT_t, clT_m, clT_r, clT_w]
    first | refine call_k ca ?_ (by simp -implicitDefEqProofs only [go_sem, seval, Jr.cells, z8_T, clT_a, clT_b, clT_1, clT_2, zeroJ_cells, opJ, opJ3, bT_nil8, mT, eqx, mv_0, mv_1, mv_2, clT_t, clT_m, clT_r, clT_w]) (by simp -implicitDefEqProofs only [go_sem, seval, Jr.cells, z8_T, clT_a, clT_b, clT_1, clT_2, zeroJ_cells, opJ, opJ3, bT_nil8, mT, eqx, mv_0, mv_1, mv_2, clT_t, clT_m, clT_r, clT_w]) | refine call_d ca ?_ (by simp -implicitDefEqProofs only [go_sem, seval, Jr.cells, z8_T, clT_a, clT_b, clT_1, clT_2, zeroJ_cells, opJ, opJ3, bT_nil8, mT, eqx, mv_0, mv_1, mv_2, clT_t, clT_m, clT_r, clT_w]) (by simp -implicitDefEqProofs only [go_sem, seval, Jr.cells, z8_T, clT_a, clT_b, clT_1, clT_2, zeroJ_cells, opJ, opJ3, bT_nil8, mT, eqx, mv_0, mv_1, mv_2, clT_t, clT_m, clT_r, clT_w])
    simp -implicitDefEqProofs only [go_sem, seval, Jr.cells, z8_T, clT_a, clT_b, clT_1, clT_2, zeroJ_cells, opJ, opJ3, bT_nil8, mT, eqx, mv_0, mv_1, mv_2, clT_t, clT_m, clT_r, clT_w]
    first | refine call_k hG ?_ | refine call_d hG ?_
    simp -implicitDefEqProofs only [go_sem, seval, Jr.cells, z8_T, clT_a, clT_b, clT_1, clT_2, zeroJ_cells, opJ, opJ3, bT_nil8, mT, eqx, mv_0, mv_1, mv_2, clT_t, clT_m, clT_r, clT_w]
    first | refine call_k cb ?_ (by simp -implicitDefEqProofs only [go_sem, seval, Jr.cells, z8_T, clT_a, clT_b, clT_1, clT_2, zeroJ_cells, opJ, opJ3, bT_nil8, mT, eqx, mv_0, mv_1, mv_2, clT_t, clT_m, clT_r, clT_w]) (by simp -implicitDefEqProofs only [go_sem, seval, Jr.cells, z8_T, clT_a, clT_b, clT_1, clT_2, zeroJ_cells, opJ, opJ3, bT_nil8, mT, eqx, mv_0, mv_1, mv_2, clT_t, clT_m, clT_r, clT_w]) | refine call_d cb ?_ (by simp -implicitDefEqProofs only [go_sem, seval, Jr.cells, z8_T, clT_a, clT_b, clT_1, clT_2, zeroJ_cells, opJ, opJ3, bT_nil8, mT, eqx, mv_0, mv_1, mv_2, clT_t, clT_m, clT_r, clT_w]) (by simp -implicitDefEqProofs only [go_sem, seval, Jr.cells, z8_T, clT_a, clT_b, clT_1, clT_2, zeroJ_cells, opJ, opJ3, bT_nil8, mT, eqx, mv_0, mv_1, mv_2, clT_t, clT_m, clT_r, clT_w])
    simp -implicitDefEqProofs only [go_sem, seval, Jr.cells, z8_T, clT_a, clT_b, clT_1, clT_2, zeroJ_cells, opJ, opJ3, bT_nil8, mT, eqx, mv_0, mv_1, mv_2, clT_t, clT_m, clT_r, clT_w]
    first | refine call_k hG ?_ | refine call_d hG ?_
    simp -implicitDefEqProofs only [go_sem, seval, Jr.cells, z8_T, clT_a, clT_b, clT_1, clT_2, zeroJ_cells, opJ, opJ3, bT_nil8, mT, eqx, mv_0, mv_1, mv_2, clT_t, clT_m, clT_r, clT_w]
    first | refine call_k cg ?_ (by simp -implicitDefEqProofs only [go_sem, seval, Jr.cells, z8_T, clT_a, clT_b, clT_1, clT_2, zeroJ_cells, opJ, opJ3, bT_nil8, mT, eqx, mv_0, mv_1, mv_2, clT_t, clT_m, clT_r, clT_w]) (by simp -implicitDefEqProofs only [go_sem, seval, Jr.cells, z8_T, clT_a, clT_b, clT_1, clT_2, zeroJ_cells, opJ, opJ3, bT_nil8, mT, eqx, mv_0, mv_1, mv_2, clT_t, clT_m, clT_r, clT_w]) | refine call_d cg ?_ (by simp -implicitDefEqProofs only [go_sem, seval, Jr.cells, z8_T, clT_a, clT_b, clT_1, clT_2, zeroJ_cells, opJ, opJ3, bT_nil8, mT, eqx, mv_0, mv_1, mv_2, clT_t, clT_m, clT_r, clT_w]) (by simp -implicitDefEqProofs only [go_sem, seval, Jr.cells, z8_T, clT_a, clT_b, clT_1, clT_2, zeroJ_cells, opJ, opJ3, bT_nil8, mT, eqx, mv_0, mv_1, mv_2, clT_t, clT_m, clT_r, clT_w])
    simp -implicitDefEqProofs only [go_sem, seval, Jr.cells, z8_T, clT_a, clT_b, clT_1, clT_2, zeroJ_cells, opJ, opJ3, bT_nil8, mT, eqx, mv_0, mv_1, mv_2, clT_t, clT_m, clT_r, clT_w]
    first | refine call_k hG ?_ | refine call_d hG ?_
    simp -implicitDefEqProofs only [go_sem, seval, Jr.cells, z8_T, clT_a, clT_b, clT_1, clT_2, zeroJ_cells, opJ, opJ3, bT_nil8, mT, eqx, mv_0, mv_1, mv_2, clT_t, clT_m, clT_r, clT_w]
    first | refine call_k ch ?_ (by simp -implicitDefEqProofs only [go_sem, seval, Jr.cells, z8_T, clT_a, clT_b, clT_1, clT_2, zeroJ_cells, opJ, opJ3, bT_nil8, mT, eqx, mv_0, mv_1, mv_2, clT_t, clT_m, clT_r, clT_w]) (by simp -implicitDefEqProofs only [go_sem, seval, Jr.cells, z8_T, clT_a, clT_b, clT_1, clT_2, zeroJ_cells, opJ, opJ3, bT_nil8, mT, eqx, mv_0, mv_1, mv_2, clT_t, clT_m, clT_r, clT_w]) | refine call_d ch ?_ (by simp -implicitDefEqProofs only [go_sem, seval, Jr.cells, z8_T, clT_a, clT_b, clT_1, clT_2, zeroJ_cells, opJ, opJ3, bT_nil8, mT, eqx, mv_0, mv_1, mv_2, clT_t, clT_m, clT_r, clT_w]) (by simp -implicitDefEqProofs only [go_sem, seval, Jr.cells, z8_T, clT_a, clT_b, clT_1, clT_2, zeroJ_cells, opJ, opJ3, bT_nil8, mT, eqx, mv_0, mv_1, mv_2, clT_t, clT_m, clT_r, clT_w])
    simp -implicitDefEqProofs only [go_sem, seval, Jr.cells, z8_T, clT_a, clT_b, clT_1, clT_2, zeroJ_cells, opJ, opJ3, bT_nil8, mT, eqx, mv_0, mv_1, mv_2, clT_t, clT_m, clT_r, clT_w]
    first | refine call_k hG ?_ | refine call_d hG ?_
    simp -implicitDefEqProofs only [go_sem, seval, Jr.cells, z8_T, clT_a, clT_b, clT_1, clT_2, zeroJ_cells, opJ, opJ3, bT_nil8, mT, eqx, mv_0, mv_1, mv_2, clT_t, clT_m, clT_r, clT_w]
    first | refine call_k ci ?_ (by simp -implicitDefEqProofs only [go_sem, seval, Jr.cells, z8_T, clT_a, clT_b, clT_1, clT_2, zeroJ_cells, opJ, opJ3, bT_nil8, mT, eqx, mv_0, mv_1, mv_2, clT_t, clT_m, clT_r, clT_w]) (by simp -implicitDefEqProofs only [go_sem, seval, Jr.cells, z8_T, clT_a, clT_b, clT_1, clT_2, zeroJ_cells, opJ, opJ3, bT_nil8, mT, eqx, mv_0, mv_1, mv_2, clT_t, clT_m, clT_r, clT_w]) | refine call_d ci ?_ (by simp -implicitDefEqProofs only [go_sem, seval, Jr.cells, z8_T, clT_a, clT_b, clT_1, clT_2, zeroJ_cells, opJ, opJ3, bT_nil8, mT, eqx, mv_0, mv_1, mv_2, clT_t, clT_m, clT_r, clT_w]) (by simp -implicitDefEqProofs only [go_sem, seval, Jr.cells, z8_T, clT_a, clT_b, clT_1, clT_2, zeroJ_cells, opJ, opJ3, bT_nil8, mT, eqx, mv_0, mv_1, mv_2, clT_t, clT_m, clT_r, clT_w])
    simp -implicitDefEqProofs only [go_sem, seval, Jr.cells, z8_T, clT_a, clT_b, clT_1, clT_2, zeroJ_cells, opJ, opJ3, bT_nil8, mT, eqx, mv_0, mv_1, mv_2, clT_t, clT_m, clT_r, clT_w]
    first | refine call_k hG ?_ | refine call_d hG ?_
    simp -implicitDefEqProofs only [go_sem, seval, Jr.cells, z8_T, clT_a, clT_b, clT_1, clT_2, zeroJ_cells, opJ, opJ3, bT_nil8, mT, eqx, mv_0, mv_1, mv_2, clT_t, clT_m, clT_r, clT_w]
    first | refine call_k ck ?_ (by simp -implicitDefEqProofs only [go_sem, seval, Jr.cells, z8_T, clT_a, clT_b, clT_1, clT_2, zeroJ_cells, opJ, opJ3, bT_nil8, mT, eqx, mv_0, mv_1, mv_2, clT_t, clT_m, clT_r, clT_w]) (by simp -implicitDefEqProofs only [go_sem, seval, Jr.cells, z8_T, clT_a, clT_b, clT_1, clT_2, zeroJ_cells, opJ, opJ3, bT_nil8, mT, eqx, mv_0, mv_1, mv_2, clT_t, clT_m, clT_r, clT_w]) | refine call_d ck ?_ (by simp -implicitDefEqProofs only [go_sem, seval, Jr.cells, z8_T, clT_a, clT_b, clT_1, clT_2, zeroJ_cells, opJ, opJ3, bT_nil8, mT, eqx, mv_0, mv_1, mv_2, clT_t, clT_m, clT_r, clT_w]) (by simp -implicitDefEqProofs only [go_sem, seval, Jr.cells, z8_T, clT_a, clT_b, clT_1, clT_2, zeroJ_cells, opJ, opJ3, bT_nil8, mT, eqx, mv_0, mv_1, mv_2, clT_t, clT_m, clT_r, clT_w])
    simp -implicitDefEqProofs only [go_sem, seval, Jr.cells, z8_T, clT_a, clT_b, clT_1, clT_2, zeroJ_cells, opJ, opJ3, bT_nil8, mT, eqx, mv_0, mv_1, mv_2, clT_t, clT_m, clT_r, clT_w]
    first | refine call_k hG ?_ | refine call_d hG ?_
    simp -implicitDefEqProofs only [go_sem, seval, Jr.cells, z8_T, clT_a, clT_b, clT_1, clT_2, zeroJ_cells, opJ, opJ3, bT_nil8, mT, eqx, mv_0, mv_1, mv_2, clT_t, clT_m, clT_r, clT_w]
    first | refine call_k cl ?_ (by simp -implicitDefEqProofs only [go_sem, seval, Jr.cells, z8_T, clT_a, clT_b, clT_1, clT_2, zeroJ_cells, opJ, opJ3, bT_nil8, mT, eqx, mv_0, mv_1, mv_2, clT_t, clT_m, clT_r, clT_w]) (by simp -implicitDefEqProofs only [go_sem, seval, Jr.cells, z8_T, clT_a, clT_b, clT_1, clT_2, zeroJ_cells, opJ, opJ3, bT_nil8, mT, eqx, mv_0, mv_1, mv_2, clT_t, clT_m, clT_r, clT_w]) | refine call_d cl ?_ (by simp -implicitDefEqProofs only [go_sem, seval, Jr.cells, z8_T, clT_a, clT_b, clT_1, clT_2, zeroJ_cells, opJ, opJ3, bT_nil8, mT, eqx, mv_0, mv_1, mv_2, clT_t, clT_m, clT_r, clT_w]) (by simp -implicitDefEqProofs only [go_sem, seval, Jr.cells, z8_T, clT_a, clT_b, clT_1, clT_2, zeroJ_cells, opJ, opJ3, bT_nil8, mT, eqx, mv_0, mv_1, mv_2, clT_t, clT_m, clT_r, clT_w])
    simp -implicitDefEqProofs only [go_sem, seval, Jr.cells, z8_T, clT_a, clT_b, clT_1, clT_2, zeroJ_cells, opJ, opJ3, bT_nil8, mT, eqx, mv_0, mv_1, mv_2, clT_t, clT_m, clT_r, clT_w]
    first | refine call_k hG ?_ | refine call_d hG ?_
    simp -implicitDefEqProofs only [go_sem, seval, Jr.cells, z8_T, clT_a, clT_b, clT_1, clT_2, zeroJ_cells, opJ, opJ3, bT_nil8, mT, eqx, mv_0, mv_1, mv_2, clT_t, clT_m, clT_r, clT_w]
    first | refine call_k cm ?_ (by simp -implicitDefEqProofs only [go_sem, seval, Jr.cells, z8_T, clT_a, clT_b, clT_1, clT_2, zeroJ_cells, opJ, opJ3, bT_nil8, mT, eqx, mv_0, mv_1, mv_2, clT_t, clT_m, clT_r, clT_w]) (by simp -implicitDefEqProofs only [go_sem, seval, Jr.cells, z8_T, clT_a, clT_b, clT_1, clT_2, zeroJ_cells, opJ, opJ3, bT_nil8, mT, eqx, mv_0, mv_1, mv_2, clT_t, clT_m, clT_r, clT_w]) | refine call_d cm ?_ (by simp -implicitDefEqProofs only [go_sem, seval, Jr.cells, z8_T, clT_a, clT_b, clT_1, clT_2, zeroJ_cells, opJ, opJ3, bT_nil8, mT, eqx, mv_0, mv_1, mv_2, clT_t, clT_m, clT_r, clT_w]) (by simp -implicitDefEqProofs only [go_sem, seval, Jr.cells, z8_T, clT_a, clT_b, clT_1, clT_2, zeroJ_cells, opJ, opJ3, bT_nil8, mT, eqx, mv_0, mv_1, mv_2, clT_t, clT_m, clT_r, clT_w])
    simp -implicitDefEqProofs only [go_sem, seval, Jr.cells, z8_T, clT_a, clT_b, clT_1, clT_2, zeroJ_cells, opJ, opJ3, bT_nil8, mT, eqx, mv_0, mv_1, mv_2, clT_t, clT_m, clT_r, clT_w]
    first | refine call_k ra ?_ (by simp -implicitDefEqProofs only [go_sem, seval, Jr.cells, z8_T, clT_a, clT_b, clT_1, clT_2, zeroJ_cells, opJ, opJ3, bT_nil8, mT, eqx, mv_0, mv_1, mv_2, clT_t, clT_m, clT_r, clT_w]) | refine call_d ra ?_ (by simp -implicitDefEqProofs only [go_sem, seval, Jr.cells, z8_T, clT_a, clT_b, clT_1, clT_2, zeroJ_cells, opJ, opJ3, bT_nil8, mT, eqx, mv_0, mv_1, mv_2, clT_t, clT_m, clT_r, clT_w])
    simp -implicitDefEqProofs only [go_sem, seval, Jr.cells, z8_T, clT_a, clT_b, clT_1, clT_2, zeroJ_cells, opJ, opJ3, bT_nil8, mT, eqx, mv_0, mv_1, mv_2, clT_t, clT_m, clT_r, clT_w]
    first | refine call_k rb ?_ (by simp -implicitDefEqProofs only [go_sem, seval, Jr.cells, z8_T, clT_a, clT_b, clT_1, clT_2, zeroJ_cells, opJ, opJ3, bT_nil8, mT, eqx, mv_0, mv_1, mv_2, clT_t, clT_m, clT_r, clT_w]) | refine call_d rb ?_ (by simp -implicitDefEqProofs only [go_sem, seval, Jr.cells, z8_T, clT_a, clT_b, clT_1, clT_2, zeroJ_cells, opJ, opJ3, bT_nil8, mT, eqx, mv_0, mv_1, mv_2, clT_t, clT_m, clT_r, clT_w])
    simp -implicitDefEqProofs only [go_sem, seval, Jr.cells, z8_T, clT_a, clT_b, clT_1, clT_2, zeroJ_cells, opJ, opJ3, bT_nil8, mT, eqx, mv_0, mv_1, mv_2, clT_t, clT_m, clT_r, clT_w]
    first | refine call_k dn ?_ (by simp -implicitDefEqProofs only [go_sem, seval, Jr.cells, z8_T, clT_a, clT_b, clT_1, clT_2, zeroJ_cells, opJ, opJ3, bT_nil8, mT, eqx, mv_0, mv_1, mv_2, clT_t, clT_m, clT_r, clT_w]) (by simp -implicitDefEqProofs only [go_sem, seval, Jr.cells, z8_T, clT_a, clT_b, clT_1, clT_2, zeroJ_cells, opJ, opJ3, bT_nil8, mT, eqx, mv_0, mv_1, mv_2, clT_t, clT_m, clT_r, clT_w]) | refine call_d dn ?_ (by simp -implicitDefEqProofs only [go_sem, seval, Jr.cells, z8_T, clT_a, clT_b, clT_1, clT_2, zeroJ_cells, opJ, opJ3, bT_nil8, mT, eqx, mv_0, mv_1, mv_2, clT_t, clT_m, clT_r, clT_w]) (by simp -implicitDefEqProofs only [go_sem, seval, Jr.cells, z8_T, clT_a, clT_b, clT_1, clT_2, zeroJ_cells, opJ, opJ3, bT_nil8, mT, eqx, mv_0, mv_1, mv_2, clT_t, clT_m, clT_r, clT_w])
    simp -implicitDefEqProofs only [go_sem, seval, Jr.cells, z8_T, clT_a, clT_b, clT_1, clT_2, zeroJ_cells, opJ, opJ3, bT_nil8, mT, eqx, mv_0, mv_1, mv_2, clT_t, clT_m, clT_r, clT_w]
    first | refine call_k hG ?_ | refine call_d hG ?_
    simp -implicitDefEqProofs only [go_sem, seval, Jr.cells, z8_T, clT_a, clT_b, clT_1, clT_2, zeroJ_cells, opJ, opJ3, bT_nil8, mT, eqx, mv_0, mv_1, mv_2, clT_t, clT_m, clT_r, clT_w]
    first | refine call_k d_o ?_ (by simp -implicitDefEqProofs only [go_sem, seval, Jr.cells, z8_T, clT_a, clT_b, clT_1, clT_2, zeroJ_cells, opJ, opJ3, bT_nil8, mT, eqx, mv_0, mv_1, mv_2, clT_t, clT_m, clT_r, clT_w]) (by simp -implicitDefEqProofs only [go_sem, seval, Jr.cells, z8_T, clT_a, clT_b, clT_1, clT_2, zeroJ_cells, opJ, opJ3, bT_nil8, mT, eqx, mv_0, mv_1, mv_2, clT_t, clT_m, clT_r, clT_w]) | refine call_d d_o ?_ (by simp -implicitDefEqProofs only [go_sem, seval, Jr.cells, z8_T, clT_a, clT_b, clT_1, clT_2, zeroJ_cells, opJ, opJ3, bT_nil8, mT, eqx, mv_0, mv_1, mv_2, clT_t, clT_m, clT_r, clT_w]) (by simp -implicitDefEqProofs only [go_sem, seval, Jr.cells, z8_T, clT_a, clT_b, clT_1, clT_2, zeroJ_cells, opJ, opJ3, bT_nil8, mT, eqx, mv_0, mv_1, mv_2, clT_t, clT_m, clT_r, clT_w])
    simp -implicitDefEqProofs only [go_sem, seval, Jr.cells, z8_T, clT_a, clT_b, clT_1, clT_2, zeroJ_cells, opJ, opJ3, bT_nil8, mT, eqx, mv_0, mv_1, mv_2, clT_t, clT_m, clT_r, clT_w]
    first | refine call_k hG ?_ | refine call_d hG ?_
    simp -implicitDefEqProofs only [go_sem, seval, Jr.cells, z8_T, clT_a, clT_b, clT_1, clT_2, zeroJ_cells, opJ, opJ3, bT_nil8, mT, eqx, mv_0, mv_1, mv_2, clT_t, clT_m, clT_r, clT_w]
    first | refine call_k d_p ?_ (by simp -implicitDefEqProofs only [go_sem, seval, Jr.cells, z8_T, clT_a, clT_b, clT_1, clT_2, zeroJ_cells, opJ, opJ3, bT_nil8, mT, eqx, mv_0, mv_1, mv_2, clT_t, clT_m, clT_r, clT_w]) (by simp -implicitDefEqProofs only [go_sem, seval, Jr.cells, z8_T, clT_a, clT_b, clT_1, clT_2, zeroJ_cells, opJ, opJ3, bT_nil8, mT, eqx, mv_0, mv_1, mv_2, clT_t, clT_m, clT_r, clT_w]) | refine call_d d_p ?_ (by simp -implicitDefEqProofs only [go_sem, seval, Jr.cells, z8_T, clT_a, clT_b, clT_1, clT_2, zeroJ_cells, opJ, opJ3, bT_nil8, mT, eqx, mv_0, mv_1, mv_2, clT_t, clT_m, clT_r, clT_w]) (by simp -implicitDefEqProofs only [go_sem, seval, Jr.cells, z8_T, clT_a, clT_b, clT_1, clT_2, zeroJ_cells, opJ, opJ3, bT_nil8, mT, eqx, mv_0, mv_1, mv_2, clT_t, clT_m, clT_r, clT_w])
    simp -implicitDefEqProofs only [go_sem, seval, Jr.cells, z8_T, clT_a, clT_b, clT_1, clT_2, zeroJ_cells, opJ, opJ3, bT_nil8, mT, eqx, mv_0, mv_1, mv_2, clT_t, clT_m, clT_r, clT_w]
    first | refine call_k hG ?_ | refine call_d hG ?_
    simp -implicitDefEqProofs only [go_sem, seval, Jr.cells, z8_T, clT_a, clT_b, clT_1, clT_2, zeroJ_cells, opJ, opJ3, bT_nil8, mT, eqx, mv_0, mv_1, mv_2, clT_t, clT_m, clT_r, clT_w]
    first | refine call_k d_q ?_ (by simp -implicitDefEqProofs only [go_sem, seval, Jr.cells, z8_T, clT_a, clT_b, clT_1, clT_2, zeroJ_cells, opJ, opJ3, bT_nil8, mT, eqx, mv_0, mv_1, mv_2, clT_t, clT_m, clT_r, clT_w]) (by simp -implicitDefEqProofs only [go_sem, seval, Jr.cells, z8_T, clT_a, clT_b, clT_1, clT_2, zeroJ_cells, opJ, opJ3, bT_nil8, mT, eqx, mv_0, mv_1, mv_2, clT_t, clT_m, clT_r, clT_w]) | refine call_d d_q ?_ (by simp -implicitDefEqProofs only [go_sem, seval, Jr.cells, z8_T, clT_a, clT_b, clT_1, clT_2, zeroJ_cells, opJ, opJ3, bT_nil8, mT, eqx, mv_0, mv_1, mv_2, clT_t, clT_m, clT_r, clT_w]) (by simp -implicitDefEqProofs only [go_sem, seval, Jr.cells, z8_T, clT_a, clT_b, clT_1, clT_2, zeroJ_cells, opJ, opJ3, bT_nil8, mT, eqx, mv_0, mv_1, mv_2, clT_t, clT_m, clT_r, clT_w])
    simp -implicitDefEqProofs only [go_sem, seval, Jr.cells, z8_T, clT_a, clT_b, clT_1, clT_2, zeroJ_cells, opJ, opJ3, bT_nil8, mT, eqx, mv_0, mv_1, mv_2, clT_t, clT_m, clT_r, clT_w]
    first | refine call_k dr ?_ (by simp -implicitDefEqProofs only [go_sem, seval, Jr.cells, z8_T, clT_a, clT_b, clT_1, clT_2, zeroJ_cells, opJ, opJ3, bT_nil8, mT, eqx, mv_0, mv_1, mv_2, clT_t, clT_m, clT_r, clT_w]) (by simp -implicitDefEqProofs only [go_sem, seval, Jr.cells, z8_T, clT_a, clT_b, clT_1, clT_2, zeroJ_cells, opJ, opJ3, bT_nil8, mT, eqx, mv_0, mv_1, mv_2, clT_t, clT_m, clT_r, clT_w]) | refine call_d dr ?_ (by simp -implicitDefEqProofs only [go_sem, seval, Jr.cells, z8_T, clT_a, clT_b, clT_1, clT_2, zeroJ_cells, opJ, opJ3, bT_nil8, mT, eqx, mv_0, mv_1, mv_2, clT_t, clT_m, clT_r, clT_w]) (by simp -implicitDefEqProofs only [go_sem, seval, Jr.cells, z8_T, clT_a, clT_b, clT_1, clT_2, zeroJ_cells, opJ, opJ3, bT_nil8, mT, eqx, mv_0, mv_1, mv_2, clT_t, clT_m, clT_r, clT_w])
    simp -implicitDefEqProofs only [go_sem, seval, Jr.cells, z8_T, clT_a, clT_b, clT_1, clT_2, zeroJ_cells, opJ, opJ3, bT_nil8, mT, eqx, mv_0, mv_1, mv_2, clT_t, clT_m, clT_r, clT_w]
    first | refine call_k d_s ?_ (by simp -implicitDefEqProofs only [go_sem, seval, Jr.cells, z8_T, clT_a, clT_b, clT_1, clT_2, zeroJ_cells, opJ, opJ3, bT_nil8, mT, eqx, mv_0, mv_1, mv_2, clT_t, clT_m, clT_r, clT_w]) (by simp -implicitDefEqProofs only [go_sem, seval, Jr.cells, z8_T, clT_a, clT_b, clT_1, clT_2, zeroJ_cells, opJ, opJ3, bT_nil8, mT, eqx, mv_0, mv_1, mv_2, clT_t, clT_m, clT_r, clT_w]) | refine call_d d_s ?_ (by simp -implicitDefEqProofs only [go_sem, seval, Jr.cells, z8_T, clT_a, clT_b, clT_1, clT_2, zeroJ_cells, opJ, opJ3, bT_nil8, mT, eqx, mv_0, mv_1, mv_2, clT_t, clT_m, clT_r, clT_w]) (by simp -implicitDefEqProofs only [go_sem, seval, Jr.cells, z8_T, clT_a, clT_b, clT_1, clT_2, zeroJ_cells, opJ, opJ3, bT_nil8, mT, eqx, mv_0, mv_1, mv_2, clT_t, clT_m, clT_r, clT_w])
    simp -implicitDefEqProofs only [go_sem, seval, Jr.cells, z8_T, clT_a, clT_b, clT_1, clT_2, zeroJ_cells, opJ, opJ3, bT_nil8, mT, eqx, mv_0, mv_1, mv_2, clT_t, clT_m, clT_r, clT_w]
    first | refine call_k d_t ?_ (by simp -implicitDefEqProofs only [go_sem, seval, Jr.cells, z8_T, clT_a, clT_b, clT_1, clT_2, zeroJ_cells, opJ, opJ3, bT_nil8, mT, eqx, mv_0, mv_1, mv_2, clT_t, clT_m, clT_r, clT_w]) (by simp -implicitDefEqProofs only [go_sem, seval, Jr.cells, z8_T, clT_a, clT_b, clT_1, clT_2, zeroJ_cells, opJ, opJ3, bT_nil8, mT, eqx, mv_0, mv_1, mv_2, clT_t, clT_m, clT_r, clT_w]) | refine call_d d_t ?_ (by simp -implicitDefEqProofs only [go_sem, seval, Jr.cells, z8_T, clT_a, clT_b, clT_1, clT_2, zeroJ_cells, opJ, opJ3, bT_nil8, mT, eqx, mv_0, mv_1, mv_2, clT_t, clT_m, clT_r, clT_w]) (by simp -implicitDefEqProofs only [go_sem, seval, Jr.cells, z8_T, clT_a, clT_b, clT_1, clT_2, zeroJ_cells, opJ, opJ3, bT_nil8, mT, eqx, mv_0, mv_1, mv_2, clT_t, clT_m, clT_r, clT_w])
    simp -implicitDefEqProofs only [go_sem, seval, Jr.cells, z8_T, clT_a, clT_b, clT_1, clT_2, zeroJ_cells, opJ, opJ3, bT_nil8, mT, eqx, mv_0, mv_1, mv_2, clT_t, clT_m, clT_r, clT_w]
    first | refine call_k cu ?_ (by simp -implicitDefEqProofs only [go_sem, seval, Jr.cells, z8_T, clT_a, clT_b, clT_1, clT_2, zeroJ_cells, opJ, opJ3, bT_nil8, mT, eqx, mv_0, mv_1, mv_2, clT_t, clT_m, clT_r, clT_w]) (by simp -implicitDefEqProofs only [go_sem, seval, Jr.cells, z8_T, clT_a, clT_b, clT_1, clT_2, zeroJ_cells, opJ, opJ3, bT_nil8, mT, eqx, mv_0, mv_1, mv_2, clT_t, clT_m, clT_r, clT_w]) | refine call_d cu ?_ (by simp -implicitDefEqProofs only [go_sem, seval, Jr.cells, z8_T, clT_a, clT_b, clT_1, clT_2, zeroJ_cells, opJ, opJ3, bT_nil8, mT, eqx, mv_0, mv_1, mv_2, clT_t, clT_m, clT_r, clT_w]) (by simp -implicitDefEqProofs only [go_sem, seval, Jr.cells, z8_T, clT_a, clT_b, clT_1, clT_2, zeroJ_cells, opJ, opJ3, bT_nil8, mT, eqx, mv_0, mv_1, mv_2, clT_t, clT_m, clT_r, clT_w])
    simp -implicitDefEqProofs only [go_sem, seval, Jr.cells, z8_T, clT_a, clT_b, clT_1, clT_2, zeroJ_cells, opJ, opJ3, bT_nil8, mT, eqx, mv_0, mv_1, mv_2, clT_t, clT_m, clT_r, clT_w]
    first | refine call_k cv ?_ (by simp -implicitDefEqProofs only [go_sem, seval, Jr.cells, z8_T, clT_a, clT_b, clT_1, clT_2, zeroJ_cells, opJ, opJ3, bT_nil8, mT, eqx, mv_0, mv_1, mv_2, clT_t, clT_m, clT_r, clT_w]) (by simp -implicitDefEqProofs only [go_sem, seval, Jr.cells, z8_T, clT_a, clT_b, clT_1, clT_2, zeroJ_cells, opJ, opJ3, bT_nil8, mT, eqx, mv_0, mv_1, mv_2, clT_t, clT_m, clT_r, clT_w]) | refine call_d cv ?_ (by simp -implicitDefEqProofs only [go_sem, seval, Jr.cells, z8_T, clT_a, clT_b, clT_1, clT_2, zeroJ_cells, opJ, opJ3, bT_nil8, mT, eqx, mv_0, mv_1, mv_2, clT_t, clT_m, clT_r, clT_w]) (by simp -implicitDefEqProofs only [go_sem, seval, Jr.cells, z8_T, clT_a, clT_b, clT_1, clT_2, zeroJ_cells, opJ, opJ3, bT_nil8, mT, eqx, mv_0, mv_1, mv_2, clT_t, clT_m, clT_r, clT_w])
    simp -implicitDefEqProofs only [go_sem, seval, Jr.cells, z8_T, clT_a, clT_b, clT_1, clT_2, zeroJ_cells, opJ, opJ3, bT_nil8, mT, eqx, mv_0, mv_1, mv_2, clT_t, clT_m, clT_r, clT_w]
    first | refine call_k d_w ?_ (by simp -implicitDefEqProofs only [go_sem, seval, Jr.cells, z8_T, clT_a, clT_b, clT_1, clT_2, zeroJ_cells, opJ, opJ3, bT_nil8, mT, eqx, mv_0, mv_1, mv_2, clT_t, clT_m, clT_r, clT_w]) (by simp -implicitDefEqProofs only [go_sem, seval, Jr.cells, z8_T, clT_a, clT_b, clT_1, clT_2, zeroJ_cells, opJ, opJ3, bT_nil8, mT, eqx, mv_0, mv_1, mv_2, clT_t, clT_m, clT_r, clT_w]) | refine call_d d_w ?_ (by simp -implicitDefEqProofs only [go_sem, seval, Jr.cells, z8_T, clT_a, clT_b, clT_1, clT_2, zeroJ_cells, opJ, opJ3, bT_nil8, mT, eqx, mv_0, mv_1, mv_2, clT_t, clT_m, clT_r, clT_w]) (by simp -implicitDefEqProofs only [go_sem, seval, Jr.cells, z8_T, clT_a, clT_b, clT_1, clT_2, zeroJ_cells, opJ, opJ3, bT_nil8, mT, eqx, mv_0, mv_1, mv_2, clT_t, clT_m, clT_r, clT_w])
    simp -implicitDefEqProofs only [go_sem, seval, Jr.cells, z8_T, clT_a, clT_b, clT_1, clT_2, zeroJ_cells, opJ, opJ3, bT_nil8, mT, eqx, mv_0, mv_1, mv_2, clT_t, clT_m, clT_r, clT_w]
    first | refine call_k d_x ?_ (by simp -implicitDefEqProofs only [go_sem, seval, Jr.cells, z8_T, clT_a, clT_b, clT_1, clT_2, zeroJ_cells, opJ, opJ3, bT_nil8, mT, eqx, mv_0, mv_1, mv_2, clT_t, clT_m, clT_r, clT_w]) (by simp -implicitDefEqProofs only [go_sem, seval, Jr.cells, z8_T, clT_a, clT_b, clT_1, clT_2, zeroJ_cells, opJ, opJ3, bT_nil8, mT, eqx, mv_0, mv_1, mv_2, clT_t, clT_m, clT_r, clT_w]) | refine call_d d_x ?_ (by simp -implicitDefEqProofs only [go_sem, seval, Jr.cells, z8_T, clT_a, clT_b, clT_1, clT_2, zeroJ_cells, opJ, opJ3, bT_nil8, mT, eqx, mv_0, mv_1, mv_2, clT_t, clT_m, clT_r, clT_w]) (by simp -implicitDefEqProofs only [go_sem, seval, Jr.cells, z8_T, clT_a, clT_b, clT_1, clT_2, zeroJ_cells, opJ, opJ3, bT_nil8, mT, eqx, mv_0, mv_1, mv_2, clT_t, clT_m, clT_r, clT_w])
    simp -implicitDefEqProofs only [go_sem, seval, Jr.cells, z8_T, clT_a, clT_b, clT_1, clT_2, zeroJ_cells, opJ, opJ3, bT_nil8, mT, eqx, mv_0, mv_1, mv_2, clT_t, clT_m, clT_r, clT_w]
    first | refine call_k ay ?_ (by simp -implicitDefEqProofs only [go_sem, seval, Jr.cells, z8_T, clT_a, clT_b, clT_1, clT_2, zeroJ_cells, opJ, opJ3, bT_nil8, mT, eqx, mv_0, mv_1, mv_2, clT_t, clT_m, clT_r, clT_w]) (by simp -implicitDefEqProofs only [go_sem, seval, Jr.cells, z8_T, clT_a, clT_b, clT_1, clT_2, zeroJ_cells, opJ, opJ3, bT_nil8, mT, eqx, mv_0, mv_1, mv_2, clT_t, clT_m, clT_r, clT_w]) | refine call_d ay ?_ (by simp -implicitDefEqProofs only [go_sem, seval, Jr.cells, z8_T, clT_a, clT_b, clT_1, clT_2, zeroJ_cells, opJ, opJ3, bT_nil8, mT, eqx, mv_0, mv_1, mv_2, clT_t, clT_m, clT_r, clT_w]) (by simp -implicitDefEqProofs only [go_sem, seval, Jr.cells, z8_T, clT_a, clT_b, clT_1, clT_2, zeroJ_cells, opJ, opJ3, bT_nil8, mT, eqx, mv_0, mv_1, mv_2, clT_t, clT_m, clT_r, clT_w])
    simp -implicitDefEqProofs only [go_sem, seval, Jr.cells, z8_T, clT_a, clT_b, clT_1, clT_2, zeroJ_cells, opJ, opJ3, bT_nil8, mT, eqx, mv_0, mv_1, mv_2, clT_t, clT_m, clT_r, clT_w]
    first | refine call_k az ?_ (by simp -implicitDefEqProofs only [go_sem, seval, Jr.cells, z8_T, clT_a, clT_b, clT_1, clT_2, zeroJ_cells, opJ, opJ3, bT_nil8, mT, eqx, mv_0, mv_1, mv_2, clT_t, clT_m, clT_r, clT_w]) (by simp -implicitDefEqProofs only [go_sem, seval, Jr.cells, z8_T, clT_a, clT_b, clT_1, clT_2, zeroJ_cells, opJ, opJ3, bT_nil8, mT, eqx, mv_0, mv_1, mv_2, clT_t, clT_m, clT_r, clT_w]) | refine call_d az ?_ (by simp -implicitDefEqProofs only [go_sem, seval, Jr.cells, z8_T, clT_a, clT_b, clT_1, clT_2, zeroJ_cells, opJ, opJ3, bT_nil8, mT, eqx, mv_0, mv_1, mv_2, clT_t, clT_m, clT_r, clT_w]) (by simp -implicitDefEqProofs only [go_sem, seval, Jr.cells, z8_T, clT_a, clT_b, clT_1, clT_2, zeroJ_cells, opJ, opJ3, bT_nil8, mT, eqx, mv_0, mv_1, mv_2, clT_t, clT_m, clT_r, clT_w])
    simp -implicitDefEqProofs only [go_sem, seval, Jr.cells, z8_T, clT_a, clT_b, clT_1, clT_2, zeroJ_cells, opJ, opJ3, bT_nil8, mT, eqx, mv_0, mv_1, mv_2, clT_t, clT_m, clT_r, clT_w]
    first | refine call_k ax ?_ (by simp -implicitDefEqProofs only [go_sem, seval, Jr.cells, z8_T, clT_a, clT_b, clT_1, clT_2, zeroJ_cells, opJ, opJ3, bT_nil8, mT, eqx, mv_0, mv_1, mv_2, clT_t, clT_m, clT_r, clT_w]) (by simp -implicitDefEqProofs only [go_sem, seval, Jr.cells, z8_T, clT_a, clT_b, clT_1, clT_2, zeroJ_cells, opJ, opJ3, bT_nil8, mT, eqx, mv_0, mv_1, mv_2, clT_t, clT_m, clT_r, clT_w]) | refine call_d ax ?_ (by simp -implicitDefEqProofs only [go_sem, seval, Jr.cells, z8_T, clT_a, clT_b, clT_1, clT_2, zeroJ_cells, opJ, opJ3, bT_nil8, mT, eqx, mv_0, mv_1, mv_2, clT_t, clT_m, clT_r, clT_w]) (by simp -implicitDefEqProofs only [go_sem, seval, Jr.cells, z8_T, clT_a, clT_b, clT_1, clT_2, zeroJ_cells, opJ, opJ3, bT_nil8, mT, eqx, mv_0, mv_1, mv_2, clT_t, clT_m, clT_r, clT_w])
    simp -implicitDefEqProofs only [go_sem, seval, Jr.cells, z8_T, clT_a, clT_b, clT_1, clT_2, zeroJ_cells, opJ, opJ3, bT_nil8, mT, eqx, mv_0, mv_1, mv_2, clT_t, clT_m, clT_r, clT_w]
    first | refine call_k hG ?_ | refine call_d hG ?_
    simp -implicitDefEqProofs only [go_sem, seval, Jr.cells, z8_T, clT_a, clT_b, clT_1, clT_2, zeroJ_cells, opJ, opJ3, bT_nil8, mT, eqx, mv_0, mv_1, mv_2, clT_t, clT_m, clT_r, clT_w]
    first | refine call_k sy ?_ (by simp -implicitDefEqProofs only [go_sem, seval, Jr.cells, z8_T, clT_a, clT_b, clT_1, clT_2, zeroJ_cells, opJ, opJ3, bT_nil8, mT, eqx, mv_0, mv_1, mv_2, clT_t, clT_m, clT_r, clT_w]) (by simp -implicitDefEqProofs only [go_sem, seval, Jr.cells, z8_T, clT_a, clT_b, clT_1, clT_2, zeroJ_cells, opJ, opJ3, bT_nil8, mT, eqx, mv_0, mv_1, mv_2, clT_t, clT_m, clT_r, clT_w]) | refine call_d sy ?_ (by simp -implicitDefEqProofs only [go_sem, seval, Jr.cells, z8_T, clT_a, clT_b, clT_1, clT_2, zeroJ_cells, opJ, opJ3, bT_nil8, mT, eqx, mv_0, mv_1, mv_2, clT_t, clT_m, clT_r, clT_w]) (by simp -implicitDefEqProofs only [go_sem, seval, Jr.cells, z8_T, clT_a, clT_b, clT_1, clT_2, zeroJ_cells, opJ, opJ3, bT_nil8, mT, eqx, mv_0, mv_1, mv_2, clT_t, clT_m, clT_r, clT_w])
    simp -implicitDefEqProofs only [go_sem, seval, Jr.cells, z8_T, clT_a, clT_b, clT_1, clT_2, zeroJ_cells, opJ, opJ3, bT_nil8, mT, eqx, mv_0, mv_1, mv_2, clT_t, clT_m, clT_r, clT_w]
    first | refine call_k hG ?_ | refine call_d hG ?_
    simp -implicitDefEqProofs only [go_sem, seval, Jr.cells, z8_T, clT_a, clT_b, clT_1, clT_2, zeroJ_cells, opJ, opJ3, bT_nil8, mT, eqx, mv_0, mv_1, mv_2, clT_t, clT_m, clT_r, clT_w]
    first | refine call_k hG ?_ | refine call_d hG ?_
    simp -implicitDefEqProofs only [go_sem, seval, Jr.cells, z8_T, clT_a, clT_b, clT_1, clT_2, zeroJ_cells, opJ, opJ3, bT_nil8, mT, eqx, mv_0, mv_1, mv_2, clT_t, clT_m, clT_r, clT_w]
    first | refine call_k hG ?_ | refine call_d hG ?_
    simp -implicitDefEqProofs only [go_sem, seval, Jr.cells, z8_T, clT_a, clT_b, clT_1, clT_2, zeroJ_cells, opJ, opJ3, bT_nil8, mT, eqx, mv_0, mv_1, mv_2, clT_t, clT_m, clT_r, clT_w]
    first | refine call_k rd ?_ (by simp -implicitDefEqProofs only [go_sem, seval, Jr.cells, z8_T, clT_a, clT_b, clT_1, clT_2, zeroJ_cells, opJ, opJ3, bT_nil8, mT, eqx, mv_0, mv_1, mv_2, clT_t, clT_m, clT_r, clT_w]) (by simp -implicitDefEqProofs only [go_sem, seval, Jr.cells, z8_T, clT_a, clT_b, clT_1, clT_2, zeroJ_cells, opJ, opJ3, bT_nil8, mT, eqx, mv_0, mv_1, mv_2, clT_t, clT_m, clT_r, clT_w]) | refine call_d rd ?_ (by simp -implicitDefEqProofs only [go_sem, seval, Jr.cells, z8_T, clT_a, clT_b, clT_1, clT_2, zeroJ_cells, opJ, opJ3, bT_nil8, mT, eqx, mv_0, mv_1, mv_2, clT_t, clT_m, clT_r, clT_w]) (by simp -implicitDefEqProofs only [go_sem, seval, Jr.cells, z8_T, clT_a, clT_b, clT_1, clT_2, zeroJ_cells, opJ, opJ3, bT_nil8, mT, eqx, mv_0, mv_1, mv_2, clT_t, clT_m, clT_r, clT_w])
    simp -implicitDefEqProofs only [go_sem, seval, Jr.cells, z8_T, clT_a, clT_b, clT_1, clT_2, zeroJ_cells, opJ, opJ3, bT_nil8, mT, eqx, mv_0, mv_1, mv_2, clT_t, clT_m, clT_r, clT_w]
    first | refine call_k kl ?_ (by simp -implicitDefEqProofs only [go_sem, seval, Jr.cells, z8_T, clT_a, clT_b, clT_1, clT_2, zeroJ_cells, opJ, opJ3, bT_nil8, mT, eqx, mv_0, mv_1, mv_2, clT_t, clT_m, clT_r, clT_w]) | refine call_d kl ?_ (by simp -implicitDefEqProofs only [go_sem, seval, Jr.cells, z8_T, clT_a, clT_b, clT_1, clT_2, zeroJ_cells, opJ, opJ3, bT_nil8, mT, eqx, mv_0, mv_1, mv_2, clT_t, clT_m, clT_r, clT_w])
    simp -implicitDefEqProofs only [go_sem, seval, Jr.cells, z8_T, clT_a, clT_b, clT_1, clT_2, zeroJ_cells, opJ, opJ3, bT_nil8, mT, eqx, mv_0, mv_1, mv_2, clT_t, clT_m, clT_r, clT_w]
    first | refine call_k ke ?_ (by simp -implicitDefEqProofs only [go_sem, seval, Jr.cells, z8_T, clT_a, clT_b, clT_1, clT_2, zeroJ_cells, opJ, opJ3, bT_nil8, mT, eqx, mv_0, mv_1, mv_2, clT_t, clT_m, clT_r, clT_w]) | refine call_d ke ?_ (by simp -implicitDefEqProofs only [go_sem, seval, Jr.cells, z8_T, clT_a, clT_b, clT_1, clT_2, zeroJ_cells, opJ, opJ3, bT_nil8, mT, eqx, mv_0, mv_1, mv_2, clT_t, clT_m, clT_r, clT_w])
    simp -implicitDefEqProofs only [go_sem, seval, Jr.cells, z8_T, clT_a, clT_b, clT_1, clT_2, zeroJ_cells, opJ, opJ3, bT_nil8, mT, eqx, mv_0, mv_1, mv_2, clT_t, clT_m, clT_r, clT_w]
    first | refine call_k kz ?_ (by simp -implicitDefEqProofs only [go_sem, seval, Jr.cells, z8_T, clT_a, clT_b, clT_1, clT_2, zeroJ_cells, opJ, opJ3, bT_nil8, mT, eqx, mv_0, mv_1, mv_2, clT_t, clT_m, clT_r, clT_w]) | refine call_d kz ?_ (by simp -implicitDefEqProofs only [go_sem, seval, Jr.cells, z8_T, clT_a, clT_b, clT_1, clT_2, zeroJ_cells, opJ, opJ3, bT_nil8, mT, eqx, mv_0, mv_1, mv_2, clT_t, clT_m, clT_r, clT_w])
    simp -implicitDefEqProofs only [go_sem, seval, Jr.cells, z8_T, clT_a, clT_b, clT_1, clT_2, zeroJ_cells, opJ, opJ3, bT_nil8, mT, eqx, mv_0, mv_1, mv_2, clT_t, clT_m, clT_r, clT_w]
    first | refine call_k hal ?_ | refine call_d hal ?_
    simp -implicitDefEqProofs only [go_sem, seval, Jr.cells, z8_T, clT_a, clT_b, clT_1, clT_2, zeroJ_cells, opJ, opJ3, bT_nil8, mT, eqx, mv_0, mv_1, mv_2, clT_t, clT_m, clT_r, clT_w]
end Go.Proofs.Ytlfpafdkegnkoaa.Pm
