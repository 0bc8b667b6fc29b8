/- journal: the statement JournalSaves. No law of Go's is stated here. -/
import Derived.Test.YtlfpafdkegnkoaaGreatPmMo
set_option linter.all false
set_option maxRecDepth 100000
set_option maxHeartbeats 2000000
namespace Go.Proofs.YtlfpafdkegnkoaaGreat.Pm
open Go Go.RowKit
theorem none_next (l : WLog) : l.none.next = l.next := rfl
theorem none_first (l : WLog) : l.none.first = l.next := rfl
theorem law_JournalSaves (j : Jr) (hj : j.given) (stage : Int) (s0 : -9223372036854775808 ≤ stage) (s1 : stage < 9223372036854775808) :
    Spec Tryz.prog 6 [.agg j.cells, .i .i64 stage] [] (.t (.b true) true) := by
  refine spec_k (hold mixed) b_law06_JournalSaves [(.b true, true)] ?_
  have hF := s_law06_fit j hj 1 (by decide) (by decide)
  have hA := s_law06_alive
  have h8 := hj.len
  have htk := clF_take (l := false) h8
  simp -implicitDefEqProofs only [go_sem, seval, sk, Jr.cells, clF_map]
  refine ⟨by omega, ?_⟩
  first | refine call_k hF ?_ (by simp -implicitDefEqProofs only [go_sem, seval, sk, Jr.cells, htk]) | refine call_d hF ?_ (by simp -implicitDefEqProofs only [go_sem, seval, sk, Jr.cells, htk])
  cases hfit : (!greatJ j && (decide j.ok && decide (j.room 1))) with
  | false =>
    simp -implicitDefEqProofs only [go_sem, seval, sk]
    first | refine call_k hA ?_ | refine call_d hA ?_
    simp -implicitDefEqProofs only [go_sem, seval, sk]
  | true =>
    have h3 : greatJ j = false ∧ j.ok ∧ j.room 1 := by simpa using hfit
    obtain ⟨hg, hk, hr⟩ := h3
    by_cases c1 : stage < 1
    · simp -implicitDefEqProofs only [go_sem, seval, sk, eq_true c1]
      first | refine call_k hA ?_ | refine call_d hA ?_
      simp -implicitDefEqProofs only [go_sem, seval, sk]
    · by_cases c2 : 5 < stage
      · simp -implicitDefEqProofs only [go_sem, seval, sk, eq_false c1, eq_true c2]
        first | refine call_k hA ?_ | refine call_d hA ?_
        simp -implicitDefEqProofs only [go_sem, seval, sk]
      · have hjf := ok_fineJ hk
        have SF := savesF hk hr (stage := stage) (by omega) (by omega)
        have rF := s_journal_Recover j hjf.1 hjf.2.1.1 h8
        have yF := s_journal_Sync j hjf
        have vF := s_journal_Save j hjf
        have cF := s_journal_Crash j hjf stage 0 s0 s1 (by decide) (by decide)
        obtain ⟨cf1, cf2, cf3⟩ := crashJ_fine hjf stage 0
        obtain ⟨⟨r, e1, e2, e3, e4⟩, e5, ⟨s2, e6, e7, e8⟩, ⟨d, e9, a, e10, e11⟩⟩ := SF
        obtain ⟨b, e12, _, _, e13, _, _⟩ := recover_own e8
        have of := ok_fineJ e8
        have oF := s_journal_Recover ⟨s2, j.l.none, j.c⟩ of.1 of.2.1.1 h8
        rw [e9] at cF cf1 cf2 cf3
        have dF := s_journal_Recover d cf1 cf2 cf3
        have kF := s_ref05_Check s2 of.1
        rw [chkS_ok e7] at kF
        rw [e1] at rF
        rw [e5] at yF
        rw [e6] at vF
        rw [e10] at dF
        rw [e12] at oF
        have rl := recoverJ_len (j := j)
        rw [e1] at rl
        have al := recoverJ_len (j := d)
        rw [e10] at al
        have bl := recoverJ_len (j := ⟨s2, j.l.none, j.c⟩)
        rw [e12] at bl
        simp only at rl al bl cf3
        have allf := (log_fine (all_ok hk.2.1).1).1
        have wF := s_ref04_Same r.l j.l.all (by rw [e3]; exact allf) allf
        rw [show sameW r.l j.l.all = true by rw [e3]; simp [sameW, sameD]] at wF
        have xF := s_ref01_Same r.s.d0 j.s.d0 (by rw [e4]; exact hjf.1.1) hjf.1.1
        rw [show sameD r.s.d0 j.s.d0 = true by rw [e4]; simp [sameD]] at xF
        have tr := clF_take (l := true) rl
        have ta := clF_take (l := true) al
        have tb := clF_take (l := true) bl
        have td := clF_take (l := true) cf3
        have tj := clF_take (l := true) h8
        have eqr := eqCells_clT (show r.c.length = j.c.length by omega)
        have eqa := eqCells_clT (show a.c.length = j.c.length by omega)
        have eqb := eqCells_clT (show b.c.length = j.c.length by omega)
        have eqj := eqCells_clT (show j.c.length = j.c.length from rfl)
        rw [decide_eq_true e2] at eqr
        rw [decide_eq_true e11] at eqa
        rw [decide_eq_true e13] at eqb
        rw [decide_eq_true rfl] at eqj
        have pj := plains_clF true h8
        have pf := plains_clF false h8
        have pr := plains_clF true rl
        have pa := plains_clF true al
        have pb := plains_clF true bl
        simp -implicitDefEqProofs only [go_sem, seval, sk, eq_false c1, eq_false c2, h8]
        first | refine call_k rF ?_ (by simp -implicitDefEqProofs only [go_sem, seval, sk, Jr.cells, htk]) (by simp -implicitDefEqProofs only [go_sem, seval, sk, opJ3]) | refine call_d rF ?_ (by simp -implicitDefEqProofs only [go_sem, seval, sk, Jr.cells, htk]) (by simp -implicitDefEqProofs only [go_sem, seval, sk, opJ3])
        simp -implicitDefEqProofs only [go_sem, seval, sk, opJ3, Jr.cells, clF_map, rl]
        refine ⟨clF_one _ _, ?_⟩
        simp -implicitDefEqProofs only [go_sem, seval, sk, h8]
        first | refine call_k yF ?_ (by simp -implicitDefEqProofs only [go_sem, seval, sk, Jr.cells, htk]) (by simp -implicitDefEqProofs only [go_sem, seval, sk, opJ]) | refine call_d yF ?_ (by simp -implicitDefEqProofs only [go_sem, seval, sk, Jr.cells, htk]) (by simp -implicitDefEqProofs only [go_sem, seval, sk, opJ])
        simp -implicitDefEqProofs only [go_sem, seval, sk, opJ, Jr.cells, clF_map, h8]
        refine ⟨clF_one _ _, by omega, ?_⟩
        simp -implicitDefEqProofs only [go_sem, seval, sk, htk, tr, pr, pf, eqr, rl]
        refine ⟨clT_flat _, ?_⟩
        first | refine call_k wF ?_ | refine call_d wF ?_
        simp -implicitDefEqProofs only [go_sem, seval, sk]
        first | refine call_k xF ?_ (by simp -implicitDefEqProofs only [go_sem, seval, sk, Dev.cells]) | refine call_d xF ?_ (by simp -implicitDefEqProofs only [go_sem, seval, sk, Dev.cells])
        try simp -implicitDefEqProofs only [go_sem, seval, sk, h8]
        first | refine call_k vF ?_ (by simp -implicitDefEqProofs only [go_sem, seval, sk, Jr.cells, htk]) (by simp -implicitDefEqProofs only [go_sem, seval, sk, opJ]) | refine call_d vF ?_ (by simp -implicitDefEqProofs only [go_sem, seval, sk, Jr.cells, htk]) (by simp -implicitDefEqProofs only [go_sem, seval, sk, opJ])
        simp -implicitDefEqProofs only [go_sem, seval, sk, opJ, Jr.cells, clF_map, h8]
        refine ⟨clF_one _ _, ?_⟩
        try simp -implicitDefEqProofs only [go_sem, seval, sk, h8]
        first | refine call_k cF ?_ (by simp -implicitDefEqProofs only [go_sem, seval, sk, Jr.cells, htk]) (by simp -implicitDefEqProofs only [go_sem, seval, sk, opJ]) | refine call_d cF ?_ (by simp -implicitDefEqProofs only [go_sem, seval, sk, Jr.cells, htk]) (by simp -implicitDefEqProofs only [go_sem, seval, sk, opJ])
        simp -implicitDefEqProofs only [go_sem, seval, sk, opJ, Jr.cells, clF_map, cf3]
        refine ⟨clF_one _ _, ?_⟩
        try simp -implicitDefEqProofs only [go_sem, seval, sk, cf3, td]
        first | refine call_k dF ?_ (by simp -implicitDefEqProofs only [go_sem, seval, sk, Jr.cells]) (by simp -implicitDefEqProofs only [go_sem, seval, sk, opJ3]) | refine call_d dF ?_ (by simp -implicitDefEqProofs only [go_sem, seval, sk, Jr.cells]) (by simp -implicitDefEqProofs only [go_sem, seval, sk, opJ3])
        simp -implicitDefEqProofs only [go_sem, seval, sk, opJ3, Jr.cells, clF_map, al]
        refine ⟨clF_one _ _, ?_⟩
        try simp -implicitDefEqProofs only [go_sem, seval, sk, h8, tj]
        first | refine call_k oF ?_ (by simp -implicitDefEqProofs only [go_sem, seval, sk, Jr.cells]) (by simp -implicitDefEqProofs only [go_sem, seval, sk, opJ3]) | refine call_d oF ?_ (by simp -implicitDefEqProofs only [go_sem, seval, sk, Jr.cells]) (by simp -implicitDefEqProofs only [go_sem, seval, sk, opJ3])
        simp -implicitDefEqProofs only [go_sem, seval, sk, opJ3, Jr.cells, clF_map, bl]
        refine ⟨clF_one _ _, ?_⟩
        refine ⟨by omega, by omega, ?_⟩
        simp -implicitDefEqProofs only [go_sem, seval, sk, htk, tj, pj, pf, eqj, h8]
        refine ⟨clT_flat _, ?_⟩
        simp -implicitDefEqProofs only [go_sem, seval, sk, none_next, none_first, beq_self_eq_true, al, h8, ta, htk, pa, pf, eqa]
        refine ⟨clT_flat _, by omega, ?_⟩
        simp -implicitDefEqProofs only [go_sem, seval, sk, bl, h8, tb, htk, pb, pf, eqb]
        refine ⟨clT_flat _, ?_⟩
        first | refine call_k kF ?_ | refine call_d kF ?_
        simp -implicitDefEqProofs only [go_sem, seval, sk]
        first | refine call_k hA ?_ | refine call_d hA ?_
        simp -implicitDefEqProofs only [go_sem, seval, sk]
end Go.Proofs.YtlfpafdkegnkoaaGreat.Pm
