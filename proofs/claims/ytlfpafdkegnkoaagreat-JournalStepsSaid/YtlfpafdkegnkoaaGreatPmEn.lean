/- journal: the statement JournalSteps. No law of Go's is stated here. -/
import Derived.Test.YtlfpafdkegnkoaaGreatPmMm
import Derived.Test.YtlfpafdkegnkoaaGreatPmQs
set_option linter.all false
set_option maxRecDepth 100000
set_option maxHeartbeats 4000000
namespace Go.Proofs.YtlfpafdkegnkoaaGreat.Pm
open Go Go.RowKit

theorem zeroJ_small : zeroJ.small := ⟨zeroD_small, zeroD_small, zeroD_small, rfl⟩
theorem clF_sh1 (l : Bool) (k : Nat) (c : List Int) : List.map (AV.sh1 k) (clF l c) = clF l c := by
  unfold clF
  rw [List.map_map]
  rfl
theorem newJ_small (n : Int) : (newJ n).1.small := by
  unfold newJ
  split
  · rename_i h
    refine ⟨?_, ?_, ⟨Nat.zero_le _, Nat.zero_le _⟩, rfl⟩
    · unfold newS; split <;> first | exact newD_small n | exact zeroD_small
    · unfold newS; split <;> first | exact newD_small n | exact zeroD_small
  · exact zeroJ_small
theorem doJ_small {j : Jr} (hj : j.small) (m : Int × Int) : (doJ j m).1.small := by
  unfold doJ
  split
  · split
    · split
      · refine ⟨hj.1, hj.2.1, ?_, applyV_len _ hj.2.2.2⟩
        show (j.l.app (wrB m)).1.dev.small
        unfold WLog.app
        split
        · split
          · split
            · split
              · exact app_small _ _
              · exact zeroD_small
            · exact zeroD_small
          · exact zeroD_small
        · exact zeroD_small
      · exact zeroJ_small
    · exact zeroJ_small
  · exact zeroJ_small
theorem syncJ_small {j : Jr} (hj : j.small) : (syncJ j).1.small := by
  unfold syncJ
  split
  · refine ⟨hj.1, hj.2.1, ?_, hj.2.2.2⟩
    show (j.l.sync).1.dev.small
    unfold WLog.sync
    split
    · exact sync_small _
    · exact zeroD_small
  · exact zeroJ_small
theorem saveJ_small {j : Jr} (hj : j.small) : (saveJ j).1.small := by
  unfold saveJ
  split
  · split
    · have hS : (saveS j.s (ptB j)).1.d0.small ∧ (saveS j.s (ptB j)).1.d1.small := by
        unfold saveS
        split
        · unfold Slt.step
          split
          · exact ⟨stepD_small hj.1 _ _, hj.2.1⟩
          · exact ⟨hj.1, stepD_small hj.2.1 _ _⟩
        · exact ⟨zeroD_small, zeroD_small⟩
      refine ⟨hS.1, hS.2, ?_, hj.2.2.2⟩
      show ((j.l.sync).1.drop j.l.next).1.dev.small
      unfold WLog.drop
      split
      · split
        · split
          · exact drop_small _ _
          · exact zeroD_small
        · exact zeroD_small
      · exact zeroD_small
    · exact zeroJ_small
  · exact zeroJ_small
theorem greatJ_fine {j : Jr} (h : greatJ j = false) (s0 : -9223372036854775808 ≤ j.s.next ∧ j.s.next ≤ 9223372036854775807) (f0 : -9223372036854775808 ≤ j.l.first ∧ j.l.first ≤ 9223372036854775807) (n0 : -9223372036854775808 ≤ j.l.next ∧ j.l.next ≤ 9223372036854775807) (h8 : j.c.length = 8) (hc : ∀ c ∈ j.c, -9223372036854775808 ≤ c ∧ c ≤ 9223372036854775807) : j.fine := by
  simp only [greatJ, Bool.or_eq_false_iff] at h
  obtain ⟨⟨h1, h2⟩, h3⟩ := h
  have h4 : j.l.dev.small := by
    simp only [great4, Bool.or_eq_false_iff, decide_eq_false_iff_not] at h3
    exact ⟨by omega, by omega⟩
  exact ⟨⟨greatD_small h1, greatD_small h2, s0⟩, ⟨h4, f0.1, f0.2, n0⟩, h8, hc⟩
theorem clT_flat (rc : List Int) : ∀ x ∈ clT rc, match x with
    | .i _ _ => True
    | _ => False := fun x hx => by
  simp only [clT, List.mem_map] at hx
  obtain ⟨_, _, rfl⟩ := hx
  trivial
theorem law_JournalSteps (j : Jr) (m : Int × Int) (cs : List Int) (l : List (Int × Int)) (n : Int) (s0 : -9223372036854775808 ≤ j.s.next ∧ j.s.next ≤ 9223372036854775807) (f0 : -9223372036854775808 ≤ j.l.first ∧ j.l.first ≤ 9223372036854775807) (n0 : -9223372036854775808 ≤ j.l.next ∧ j.l.next ≤ 9223372036854775807) (h8 : j.c.length = 8) (hc : ∀ c ∈ j.c, -9223372036854775808 ≤ c ∧ c ≤ 9223372036854775807)
    (m0 : -9223372036854775808 ≤ m.2) (m1 : m.2 ≤ 9223372036854775807) (c8 : cs.length = 8) :
    Spec Tryz.prog 3 [.agg j.cells, .agg (mT m), .agg (clT cs), .sl (mvT l), .i .i64 n] [] (.t (.b true) true) := by
  refine spec_k (hold mixed) b_law06_JournalSteps [(.b true, true)] ?_
  have hG := s_ref06_Great j
  have htj := clF_take (l := false) h8
  have htc := clF_take (l := false) c8
  have htj' := clF_take (l := true) h8
  cases hg : greatJ j with
  | true =>
    rw [hg] at hG
    simp -implicitDefEqProofs only [go_sem, seval, sk, Jr.cells, clF_map]
    refine ⟨by omega, ?_⟩
    first | refine call_k hG ?_ (by simp -implicitDefEqProofs only [go_sem, seval, sk, Jr.cells, htj]) | refine call_d hG ?_ (by simp -implicitDefEqProofs only [go_sem, seval, sk, Jr.cells, htj])
    simp -implicitDefEqProofs only [go_sem, seval, sk]
  | false =>
    rw [hg] at hG
    by_cases hl : 40 < l.length
    · have el : (40 : Int) < (l.length : Int) := by omega
      simp -implicitDefEqProofs only [go_sem, seval, sk, Jr.cells, clF_map]
      refine ⟨by omega, ?_⟩
      first | refine call_k hG ?_ (by simp -implicitDefEqProofs only [go_sem, seval, sk, Jr.cells, htj]) | refine call_d hG ?_ (by simp -implicitDefEqProofs only [go_sem, seval, sk, Jr.cells, htj])
      simp -implicitDefEqProofs only [go_sem, seval, sk, eq_true el]
    have el : ((40 : Int) < (l.length : Int)) = False := eq_false (by omega)
    have hj := greatJ_fine hg s0 f0 n0 h8 hc
    have hjs := fine_small hj
    simp -implicitDefEqProofs only [go_sem, seval, sk, Jr.cells, clF_map]
    refine ⟨by omega, ?_⟩
    first | refine call_k hG ?_ (by simp -implicitDefEqProofs only [go_sem, seval, sk, Jr.cells, htj]) | refine call_d hG ?_ (by simp -implicitDefEqProofs only [go_sem, seval, sk, Jr.cells, htj])
    simp -implicitDefEqProofs only [go_sem, seval, sk, el]
    refine ⟨by omega, ?_⟩
    first | refine call_k (s_ref06_Twin j hjs) ?_ (by simp -implicitDefEqProofs only [go_sem, seval, sk, Jr.cells, htj]) (by simp -implicitDefEqProofs only [go_sem, seval, sk]; exact fun _ => List.all_eq_true.2 fun x hx => by simp only [clF, List.mem_map] at hx; obtain ⟨_, _, rfl⟩ := hx; rfl) | refine call_d (s_ref06_Twin j hjs) ?_ (by simp -implicitDefEqProofs only [go_sem, seval, sk, Jr.cells, htj]) (by simp -implicitDefEqProofs only [go_sem, seval, sk]; exact fun _ => List.all_eq_true.2 fun x hx => by simp only [clF, List.mem_map] at hx; obtain ⟨_, _, rfl⟩ := hx; rfl)
    simp -implicitDefEqProofs only [go_sem, seval, sk, clF_sh1, h8]
    refine ⟨clF_one _ _, ?_⟩
    have hd1 := clF_drop (l := true) h8
    have e1 := newJ_small n
    have hN1 := s_journal_New n
    have hN2 := s_ref06_New n
    generalize newJ n = p1 at *
    obtain ⟨a1, q1⟩ := p1
    have g1 := e1.2.2.2
    simp only at g1
    have t1 := clF_take (l := true) g1
    have u1 := clF_drop (l := true) g1
    first | refine call_k hN1 ?_ (by simp -implicitDefEqProofs only [go_sem, seval, sk]) (by simp -implicitDefEqProofs only [go_sem, seval, sk, opJ]) | refine call_d hN1 ?_ (by simp -implicitDefEqProofs only [go_sem, seval, sk]) (by simp -implicitDefEqProofs only [go_sem, seval, sk, opJ])
    simp -implicitDefEqProofs only [go_sem, seval, sk, opJ, Jr.cells, clF_map, g1]
    refine ⟨clF_one _ _, ?_⟩
    first | refine call_k hN2 ?_ (by simp -implicitDefEqProofs only [go_sem, seval, sk]) (by simp -implicitDefEqProofs only [go_sem, seval, sk, opJ]) | refine call_d hN2 ?_ (by simp -implicitDefEqProofs only [go_sem, seval, sk]) (by simp -implicitDefEqProofs only [go_sem, seval, sk, opJ])
    simp -implicitDefEqProofs only [go_sem, seval, sk, opJ, Jr.cells, clF_map, g1]
    refine ⟨clF_one _ _, ?_⟩
    simp -implicitDefEqProofs only [go_sem, seval, sk, g1, u1, hd1, List.append_nil, htc, c8]
    have hA1 := s_journal_Apply cs c8 l (by omega)
    have hA2 := s_ref06_Apply cs c8 l (by omega)
    have g2 := applyV_len l c8
    generalize applyV cs l = p2 at *
    obtain ⟨a2, q2⟩ := p2
    simp only at g2
    have t2 := clF_take (l := true) g2
    have u2 := clF_drop (l := true) g2
    first | refine call_k hA1 ?_ | refine call_d hA1 ?_
    simp -implicitDefEqProofs only [go_sem, seval, sk, clF_map, g2]
    refine ⟨clF_one _ _, ?_⟩
    simp -implicitDefEqProofs only [go_sem, seval, sk, g2, u2, List.append_nil, htc, c8]
    first | refine call_k hA2 ?_ | refine call_d hA2 ?_
    simp -implicitDefEqProofs only [go_sem, seval, sk, clF_map, g2]
    refine ⟨clF_one _ _, ?_⟩
    simp -implicitDefEqProofs only [go_sem, seval, sk, g2, u2, List.append_nil, h8, htj']
    have e3 := doJ_small hjs m
    have hN3 := s_journal_Do j hj m m0 m1
    have hM3 := s_ref06_Do j hj m m0 m1
    generalize doJ j m = p3 at *
    obtain ⟨a3, r3, q3⟩ := p3
    have g3 := e3.2.2.2
    simp only at g3
    have t3 := clF_take (l := true) g3
    have u3 := clF_drop (l := true) g3
    first | refine call_k hN3 ?_ (by simp -implicitDefEqProofs only [go_sem, seval, sk, Jr.cells, htj', bT_take_self]) (by simp -implicitDefEqProofs only [go_sem, seval, sk, opJ3]) | refine call_d hN3 ?_ (by simp -implicitDefEqProofs only [go_sem, seval, sk, Jr.cells, htj', bT_take_self]) (by simp -implicitDefEqProofs only [go_sem, seval, sk, opJ3])
    simp -implicitDefEqProofs only [go_sem, seval, sk, opJ3, Jr.cells, clF_map, g3]
    refine ⟨clF_one _ _, ?_⟩
    simp -implicitDefEqProofs only [go_sem, seval, sk, g3, u3, List.append_nil, h8, htj]
    first | refine call_k hM3 ?_ (by simp -implicitDefEqProofs only [go_sem, seval, sk, Jr.cells, htj]) (by simp -implicitDefEqProofs only [go_sem, seval, sk, opJ3]) | refine call_d hM3 ?_ (by simp -implicitDefEqProofs only [go_sem, seval, sk, Jr.cells, htj]) (by simp -implicitDefEqProofs only [go_sem, seval, sk, opJ3])
    simp -implicitDefEqProofs only [go_sem, seval, sk, opJ3, Jr.cells, clF_map, g3]
    refine ⟨clF_one _ _, ?_⟩
    simp -implicitDefEqProofs only [go_sem, seval, sk, g3, u3, g1, g2, List.append_nil, t1, t2, t3]
    have hS1 := s_ref06_Same a1 a1 e1 e1
    rw [sameJ_self] at hS1
    first | refine call_k hS1 ?_ (by simp -implicitDefEqProofs only [go_sem, seval, sk, Jr.cells]) | refine call_d hS1 ?_ (by simp -implicitDefEqProofs only [go_sem, seval, sk, Jr.cells])
    simp -implicitDefEqProofs only [go_sem, seval, sk, g2, t2, plains_clF true g2, eqCells_clT (show a2.length = a2.length from rfl), decide_eq_true (show a2 = a2 from rfl), g3, t3]
    refine ⟨clT_flat a2, ?_⟩
    have hS3 := s_ref06_Same a3 a3 e3 e3
    rw [sameJ_self] at hS3
    first | refine call_k hS3 ?_ (by simp -implicitDefEqProofs only [go_sem, seval, sk, Jr.cells]) | refine call_d hS3 ?_ (by simp -implicitDefEqProofs only [go_sem, seval, sk, Jr.cells])
    simp -implicitDefEqProofs only [go_sem, seval, sk, h8, htj', hd1]
    have e4 := syncJ_small hjs
    have hN4 := s_journal_Sync j hj
    have hM4 := s_ref06_Sync j hj
    generalize syncJ j = p4 at *
    obtain ⟨a4, q4⟩ := p4
    have g4 := e4.2.2.2
    simp only at g4
    have t4 := clF_take (l := true) g4
    have u4 := clF_drop (l := true) g4
    first | refine call_k hN4 ?_ (by simp -implicitDefEqProofs only [go_sem, seval, sk, Jr.cells, htj', bT_take_self]) (by simp -implicitDefEqProofs only [go_sem, seval, sk, opJ]) | refine call_d hN4 ?_ (by simp -implicitDefEqProofs only [go_sem, seval, sk, Jr.cells, htj', bT_take_self]) (by simp -implicitDefEqProofs only [go_sem, seval, sk, opJ])
    simp -implicitDefEqProofs only [go_sem, seval, sk, opJ, Jr.cells, clF_map, g4]
    refine ⟨clF_one _ _, ?_⟩
    simp -implicitDefEqProofs only [go_sem, seval, sk, g4, u4, List.append_nil, h8, htj]
    first | refine call_k hM4 ?_ (by simp -implicitDefEqProofs only [go_sem, seval, sk, Jr.cells, htj]) (by simp -implicitDefEqProofs only [go_sem, seval, sk, opJ]) | refine call_d hM4 ?_ (by simp -implicitDefEqProofs only [go_sem, seval, sk, Jr.cells, htj]) (by simp -implicitDefEqProofs only [go_sem, seval, sk, opJ])
    simp -implicitDefEqProofs only [go_sem, seval, sk, opJ, Jr.cells, clF_map, g4]
    refine ⟨clF_one _ _, ?_⟩
    simp -implicitDefEqProofs only [go_sem, seval, sk, g4, u4, List.append_nil, h8, htj']
    have e5 := saveJ_small hjs
    have hN5 := s_journal_Save j hj
    have hM5 := s_ref06_Save j hj
    generalize saveJ j = p5 at *
    obtain ⟨a5, q5⟩ := p5
    have g5 := e5.2.2.2
    simp only at g5
    have t5 := clF_take (l := true) g5
    have u5 := clF_drop (l := true) g5
    first | refine call_k hN5 ?_ (by simp -implicitDefEqProofs only [go_sem, seval, sk, Jr.cells, htj', bT_take_self]) (by simp -implicitDefEqProofs only [go_sem, seval, sk, opJ]) | refine call_d hN5 ?_ (by simp -implicitDefEqProofs only [go_sem, seval, sk, Jr.cells, htj', bT_take_self]) (by simp -implicitDefEqProofs only [go_sem, seval, sk, opJ])
    simp -implicitDefEqProofs only [go_sem, seval, sk, opJ, Jr.cells, clF_map, g5]
    refine ⟨clF_one _ _, ?_⟩
    simp -implicitDefEqProofs only [go_sem, seval, sk, g5, u5, List.append_nil, h8, htj]
    first | refine call_k hM5 ?_ (by simp -implicitDefEqProofs only [go_sem, seval, sk, Jr.cells, htj]) (by simp -implicitDefEqProofs only [go_sem, seval, sk, opJ]) | refine call_d hM5 ?_ (by simp -implicitDefEqProofs only [go_sem, seval, sk, Jr.cells, htj]) (by simp -implicitDefEqProofs only [go_sem, seval, sk, opJ])
    simp -implicitDefEqProofs only [go_sem, seval, sk, opJ, Jr.cells, clF_map, g5]
    refine ⟨clF_one _ _, ?_⟩
    simp -implicitDefEqProofs only [go_sem, seval, sk, g5, u5, List.append_nil, h8, htj']
    have hC1 := s_journal_Check j hj
    have hC2 := s_ref06_Check j hj
    generalize j.chk = ck at *
    first | refine call_k hC1 ?_ (by simp -implicitDefEqProofs only [go_sem, seval, sk, Jr.cells, bT_take_self]) | refine call_d hC1 ?_ (by simp -implicitDefEqProofs only [go_sem, seval, sk, Jr.cells, bT_take_self])
    simp -implicitDefEqProofs only [go_sem, seval, sk, h8, htj]
    first | refine call_k hC2 ?_ (by simp -implicitDefEqProofs only [go_sem, seval, sk, Jr.cells]) | refine call_d hC2 ?_ (by simp -implicitDefEqProofs only [go_sem, seval, sk, Jr.cells])
    simp -implicitDefEqProofs only [go_sem, seval, sk, decide_eq_true (show ck = ck from rfl), g4, t4]
    have hS4 := s_ref06_Same a4 a4 e4 e4
    rw [sameJ_self] at hS4
    first | refine call_k hS4 ?_ (by simp -implicitDefEqProofs only [go_sem, seval, sk, Jr.cells]) | refine call_d hS4 ?_ (by simp -implicitDefEqProofs only [go_sem, seval, sk, Jr.cells])
    simp -implicitDefEqProofs only [go_sem, seval, sk, g5, t5]
    have hS5 := s_ref06_Same a5 a5 e5 e5
    rw [sameJ_self] at hS5
    first | refine call_k hS5 ?_ (by simp -implicitDefEqProofs only [go_sem, seval, sk, Jr.cells]) | refine call_d hS5 ?_ (by simp -implicitDefEqProofs only [go_sem, seval, sk, Jr.cells])
    simp -implicitDefEqProofs only [go_sem, seval, sk, h8, htj, htj']
    have hS6 := s_ref06_Same j j hjs hjs
    rw [sameJ_self] at hS6
    first | refine call_k hS6 ?_ (by simp -implicitDefEqProofs only [go_sem, seval, sk, Jr.cells, bT_take_self]) | refine call_d hS6 ?_ (by simp -implicitDefEqProofs only [go_sem, seval, sk, Jr.cells, bT_take_self])
    simp -implicitDefEqProofs only [go_sem, seval, sk]
end Go.Proofs.YtlfpafdkegnkoaaGreat.Pm
