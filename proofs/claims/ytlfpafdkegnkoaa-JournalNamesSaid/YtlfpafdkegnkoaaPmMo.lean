/- Texts of this proof in one file: PmEt, PmEu, PmEv. No law of Go's is stated here. -/
import Derived.Test.YtlfpafdkegnkoaaPmMn
import Derived.Test.YtlfpafdkegnkoaaPmMm
import Derived.Test.YtlfpafdkegnkoaaPmQs
set_option linter.all false
set_option maxRecDepth 100000
set_option maxHeartbeats 2000000
namespace Go.Proofs.Ytlfpafdkegnkoaa.Pm
open Go Go.RowKit
def Jr.room (j : Jr) (k : Int) : Prop := 100 ≤ j.s.d0.cap ∧ 100 ≤ j.s.d1.cap ∧ 21 * k ≤ j.l.dev.cap - j.l.dev.all.length ∧ (∀ x ∈ j.c, 1000000 * k - 1000000000 ≤ x ∧ x ≤ 1000000000 - 1000000 * k) ∧ j.l.next < 1000000 ∧ j.s.next < 1000000
instance decRoom (j : Jr) (k : Int) : Decidable (j.room k) := by unfold Jr.room; infer_instance
theorem halved_fine {j : Jr} (hj : j.fine) (st o : Int) : (halved j st o).1.fine := by
  obtain ⟨hs, hl, h8, hc⟩ := hj
  by_cases c : 0 < st
  · by_cases c1 : (saveS j.s (ptB j)).2.2 = 0
    · rw [halved_half c c1]
      obtain ⟨a, b⟩ := halfS_small' j.s (ptB j) st o
      rcases halfS_next j.s (ptB j) st o with g | g
      · exact ⟨a, b, by rw [g]; exact hs.2.2⟩
      · exact ⟨a, b, by rw [g]; decide⟩
    · rw [halved_save c c1]
      exact ⟨zeroD_small, zeroD_small, by show (-9223372036854775808 : Int) ≤ 0; decide, by show (0 : Int) ≤ 9223372036854775807; decide⟩
  · rw [halved_none c]
    exact ⟨crash_small _ _, crash_small _ _, hs.2.2⟩
theorem crashJ_fine {j : Jr} (hj : j.fine) (st k : Int) : (crashJ j st k).1.s.fine ∧ (crashJ j st k).1.l.dev.small ∧ (crashJ j st k).1.c.length = 8 := by
  have hz : zeroJ.s.fine ∧ zeroJ.l.dev.small ∧ zeroJ.c.length = 8 := ⟨⟨zeroD_small, zeroD_small, by decide⟩, zeroD_small, rfl⟩
  unfold crashJ
  by_cases c0 : j.ok
  · rw [if_pos c0]
    by_cases c1 : 0 ≤ st ∧ st ≤ 5
    · rw [if_pos c1]
      by_cases c2 : (halved j (max 0 (min (st - 1) 3)) (if st = 3 then k else 0)).2 = 0
      · rw [if_pos c2]
        by_cases c3 : ((crLog j st).dev.crash (if st = 3 then 0 else k)).2 = 0
        · rw [if_pos c3]
          exact ⟨halved_fine hj _ _, crash_small _ _, rfl⟩
        · rw [if_neg c3]; exact hz
      · rw [if_neg c2]; exact hz
    · rw [if_neg c1]; exact hz
  · rw [if_neg c0]; exact hz
theorem recoverJ_len {j : Jr} : (recoverJ j).1.c.length = 8 := by
  unfold recoverJ
  split
  · split
    · split
      · rename_i h
        exact (facts h).j8
      · rfl
    · rfl
  · rfl
def recoveredB (d : Jr) (e : Int) (cs : List Int) (k : Int) : Bool := decide (e = 0) && (decide ((recoverJ d).2.2 = 0) && (decide ((recoverJ d).1.c = cs) && (decide ((recoverJ d).2.1 = k) && decide ((recoverJ d).1.l.next = k))))
theorem s_law06_recovered (d : Jr) (hs : d.s.fine) (hd : d.l.dev.small) (h8 : d.c.length = 8) (e : Int) (cs : List Int) (c8 : cs.length = 8) (k : Int) :
    Spec Try.prog 20 [.agg d.cells, .i .i64 e, .agg (clT cs), .i .i64 k] [] (.t (.b (recoveredB d e cs k)) true) := by
  refine spec_k (hold mixed) b_law06_recovered [(.b (recoveredB d e cs k), true)] ?_
  have hR := s_journal_Recover d hs hd h8
  have hl := recoverJ_len (j := d)
  obtain ⟨⟨r, n, f⟩, hr⟩ : ∃ p, recoverJ d = p := ⟨_, rfl⟩
  have hB : recoveredB d e cs k = (decide (e = 0) && (decide (f = 0) && (decide (r.c = cs) && (decide (n = k) && decide (r.l.next = k))))) := by unfold recoveredB; rw [hr]
  rw [hr] at hR hl
  simp only at hl
  rw [hB]
  have htk := clF_take (l := false) h8
  have htr := clF_take (l := true) hl
  have htc := clF_take (l := false) c8
  simp -implicitDefEqProofs only [go_sem, seval, sk, Jr.cells, clF_map]
  refine ⟨by omega, ?_⟩
  first | refine call_k hR ?_ (by simp -implicitDefEqProofs only [go_sem, seval, sk, Jr.cells, htk]) (by simp -implicitDefEqProofs only [go_sem, seval, sk, opJ3]) | refine call_d hR ?_ (by simp -implicitDefEqProofs only [go_sem, seval, sk, Jr.cells, htk]) (by simp -implicitDefEqProofs only [go_sem, seval, sk, opJ3])
  simp -implicitDefEqProofs only [go_sem, seval, sk, opJ3, Jr.cells, clF_map, hl]
  refine ⟨clF_one _ _, ?_⟩
  by_cases c1 : e = 0
  · by_cases c2 : f = 0
    · subst c1 c2
      simp -implicitDefEqProofs only [go_sem, seval, sk, hl, htr, htc, c8, plains_clF true hl, plains_clF false c8, eqCells_clT (show r.c.length = cs.length by omega)]
      refine ⟨clT_flat _, ?_⟩
      by_cases c3 : r.c = cs
      · by_cases c4 : n = k
        · subst c4
          by_cases c5 : r.l.next = n
          · simp -implicitDefEqProofs only [go_sem, seval, sk, decide_eq_true c3, c5, decide_eq_true (show n = n from rfl), decide_eq_true (show (0 : Int) = 0 from rfl)]
          · have c5' : (r.l.next == n) = false := by simp [c5]
            simp -implicitDefEqProofs only [go_sem, seval, sk, decide_eq_true c3, c5', decide_eq_false c5]
        · have c4' : (n == k) = false := by simp [c4]
          simp -implicitDefEqProofs only [go_sem, seval, sk, decide_eq_true c3, c4', decide_eq_false c4]
      · simp -implicitDefEqProofs only [go_sem, seval, sk, decide_eq_false c3]
    · have c2' : (f == 0) = false := by simp [c2]
      subst c1
      simp -implicitDefEqProofs only [go_sem, seval, sk, c2', decide_eq_false c2]
  · have c1' : (e == 0) = false := by simp [c1]
    simp -implicitDefEqProofs only [go_sem, seval, sk, c1', decide_eq_false c1]
def J0 : Jr := (newJ 1000).1
def J1 : Jr := (doJ J0 (0, 5)).1
def J2 : Jr := (doJ J1 (1, -2)).1
def J3 : Jr := (saveJ J2).1
def J4 : Jr := (doJ J3 (0, 7)).1
instance decSmallJ (d : Dev) : Decidable d.small := by unfold Dev.small; infer_instance
instance decFineS (s : Slt) : Decidable s.fine := by unfold Slt.fine; infer_instance
instance decFineW (s : WLog) : Decidable s.fine := by unfold WLog.fine; infer_instance
instance decFineJ (j : Jr) : Decidable j.fine := by unfold Jr.fine; infer_instance
theorem fineJ0 : J0.fine := by decide +kernel
theorem fineJ1 : J1.fine := by decide +kernel
theorem fineJ2 : J2.fine := by decide +kernel
theorem fineJ3 : J3.fine := by decide +kernel
theorem fineJ4 : J4.fine := by decide +kernel
theorem s_law06_given : Spec Try.prog 19 [] [] (.t (.agg J4.cells) true) := by
  refine spec_k (hold mixed) b_law06_given [(.agg J4.cells, true)] ?_
  have g0 := s_journal_New 1000
  have g1 := s_journal_Do J0 fineJ0 (0, 5) (by decide) (by decide)
  have g2 := s_journal_Do J1 fineJ1 (1, -2) (by decide) (by decide)
  have g3 := s_journal_Save J2 fineJ2
  have g4 := s_journal_Do J3 fineJ3 (0, 7) (by decide) (by decide)
  rw [show newJ 1000 = (J0, (newJ 1000).2) from rfl] at g0
  rw [show doJ J0 (0, 5) = (J1, (doJ J0 (0, 5)).2.1, (doJ J0 (0, 5)).2.2) from rfl] at g1
  rw [show doJ J1 (1, -2) = (J2, (doJ J1 (1, -2)).2.1, (doJ J1 (1, -2)).2.2) from rfl] at g2
  rw [show saveJ J2 = (J3, (saveJ J2).2) from rfl] at g3
  rw [show doJ J3 (0, 7) = (J4, (doJ J3 (0, 7)).2.1, (doJ J3 (0, 7)).2.2) from rfl] at g4
  have h0 := fineJ0.2.2.1
  have h1 := fineJ1.2.2.1
  have h2 := fineJ2.2.2.1
  have h3 := fineJ3.2.2.1
  have h4 := fineJ4.2.2.1
  generalize (newJ 1000).2 = e0 at *
  generalize (doJ J0 (0, 5)).2.1 = n1 at *
  generalize (doJ J0 (0, 5)).2.2 = e1 at *
  generalize (doJ J1 (1, -2)).2.1 = n2 at *
  generalize (doJ J1 (1, -2)).2.2 = e2 at *
  generalize (saveJ J2).2 = e3 at *
  generalize (doJ J3 (0, 7)).2.1 = n4 at *
  generalize (doJ J3 (0, 7)).2.2 = e4 at *
  generalize J0 = j0 at *
  generalize J1 = j1 at *
  generalize J2 = j2 at *
  generalize J3 = j3 at *
  generalize J4 = j4 at *
  have t0 := clF_take (l := true) h0
  have t1 := clF_take (l := true) h1
  have t2 := clF_take (l := true) h2
  have t3 := clF_take (l := true) h3
  have u0 := clF_drop (l := true) h0
  have u1 := clF_drop (l := true) h1
  have u2 := clF_drop (l := true) h2
  have u3 := clF_drop (l := true) h3
  have u4 := clF_drop (l := true) h4
  simp -implicitDefEqProofs only [go_sem, seval, sk]
  first | refine call_k g0 ?_ (by simp -implicitDefEqProofs only [go_sem, seval, sk]) (by simp -implicitDefEqProofs only [go_sem, seval, sk, opJ]) | refine call_d g0 ?_ (by simp -implicitDefEqProofs only [go_sem, seval, sk]) (by simp -implicitDefEqProofs only [go_sem, seval, sk, opJ])
  simp -implicitDefEqProofs only [go_sem, seval, sk, opJ, Jr.cells, clF_map, h0]
  refine ⟨clF_one _ _, ?_⟩
  simp -implicitDefEqProofs only [go_sem, seval, sk, h0, t0]
  first | refine call_k g1 ?_ (by simp -implicitDefEqProofs only [go_sem, seval, sk, Jr.cells]) (by simp -implicitDefEqProofs only [go_sem, seval, sk, opJ3]) | refine call_d g1 ?_ (by simp -implicitDefEqProofs only [go_sem, seval, sk, Jr.cells]) (by simp -implicitDefEqProofs only [go_sem, seval, sk, opJ3])
  simp -implicitDefEqProofs only [go_sem, seval, sk, opJ3, Jr.cells, clF_map, h0, h1, u0, List.append_nil]
  refine ⟨clF_one _ _, ?_⟩
  simp -implicitDefEqProofs only [go_sem, seval, sk, h1, t1]
  first | refine call_k g2 ?_ (by simp -implicitDefEqProofs only [go_sem, seval, sk, Jr.cells]) (by simp -implicitDefEqProofs only [go_sem, seval, sk, opJ3]) | refine call_d g2 ?_ (by simp -implicitDefEqProofs only [go_sem, seval, sk, Jr.cells]) (by simp -implicitDefEqProofs only [go_sem, seval, sk, opJ3])
  simp -implicitDefEqProofs only [go_sem, seval, sk, opJ3, Jr.cells, clF_map, h1, h2, u1, List.append_nil]
  refine ⟨clF_one _ _, ?_⟩
  simp -implicitDefEqProofs only [go_sem, seval, sk, h2, t2]
  first | refine call_k g3 ?_ (by simp -implicitDefEqProofs only [go_sem, seval, sk, Jr.cells]) (by simp -implicitDefEqProofs only [go_sem, seval, sk, opJ]) | refine call_d g3 ?_ (by simp -implicitDefEqProofs only [go_sem, seval, sk, Jr.cells]) (by simp -implicitDefEqProofs only [go_sem, seval, sk, opJ])
  simp -implicitDefEqProofs only [go_sem, seval, sk, opJ, Jr.cells, clF_map, h2, h3, u2, List.append_nil]
  refine ⟨clF_one _ _, ?_⟩
  simp -implicitDefEqProofs only [go_sem, seval, sk, h3, t3]
  first | refine call_k g4 ?_ (by simp -implicitDefEqProofs only [go_sem, seval, sk, Jr.cells]) (by simp -implicitDefEqProofs only [go_sem, seval, sk, opJ3]) | refine call_d g4 ?_ (by simp -implicitDefEqProofs only [go_sem, seval, sk, Jr.cells]) (by simp -implicitDefEqProofs only [go_sem, seval, sk, opJ3])
  simp -implicitDefEqProofs only [go_sem, seval, sk, opJ3, Jr.cells, clF_map, h3, h4, u3, List.append_nil]
  refine ⟨clF_one _ _, ?_⟩
  have t4 := clF_take (l := true) h4
  simp -implicitDefEqProofs only [go_sem, seval, sk, h4, t4, u4, List.append_nil]
  exact clF_one _ _
def aliveA : Jr × Int := crashJ J4 0 20
def aliveB : Jr × Int := crashJ J4 0 21
theorem alive_facts : J4.c = [12, -2, 0, 0, 0, 0, 0, 0] ∧ recoveredB aliveA.1 aliveA.2 [5, -2, 0, 0, 0, 0, 0, 0] 2 = true ∧ recoveredB aliveB.1 aliveB.2 [12, -2, 0, 0, 0, 0, 0, 0] 3 = true := by decide +kernel
theorem s_law06_alive : Spec Try.prog 24 [] [] (.t (.b true) true) := by
  refine spec_k (hold mixed) b_law06_alive [(.b true, true)] ?_
  have hG := s_law06_given
  obtain ⟨f1, f2, f3⟩ := alive_facts
  have hA := s_journal_Crash J4 fineJ4 0 20 (by decide) (by decide) (by decide) (by decide)
  have hB := s_journal_Crash J4 fineJ4 0 21 (by decide) (by decide) (by decide) (by decide)
  obtain ⟨a1, a2, a3⟩ := crashJ_fine fineJ4 0 20
  obtain ⟨b1, b2, b3⟩ := crashJ_fine fineJ4 0 21
  have hRA := s_law06_recovered aliveA.1 a1 a2 a3 aliveA.2 [5, -2, 0, 0, 0, 0, 0, 0] rfl 2
  have hRB := s_law06_recovered aliveB.1 b1 b2 b3 aliveB.2 [12, -2, 0, 0, 0, 0, 0, 0] rfl 3
  rw [f2] at hRA
  rw [f3] at hRB
  have h4 := fineJ4.2.2.1
  change Spec _ _ _ _ (resV ((opJ aliveA).map AV.ofT)) at hA
  change Spec _ _ _ _ (resV ((opJ aliveB).map AV.ofT)) at hB
  change aliveA.1.c.length = 8 at a3
  change aliveB.1.c.length = 8 at b3
  generalize aliveA = pa at *
  generalize aliveB = pb at *
  generalize J4 = j4 at *
  obtain ⟨da, ea⟩ := pa
  obtain ⟨db, eb⟩ := pb
  simp only at a3 b3 hRA hRB
  have ta := clF_take (l := true) a3
  have tb := clF_take (l := true) b3
  have ua := clF_drop (l := true) a3
  have t4 := clT_take h4
  simp -implicitDefEqProofs only [go_sem, seval, sk]
  first | refine call_k hG ?_ | refine call_d hG ?_
  simp -implicitDefEqProofs only [go_sem, seval, sk, Jr.cells]
  first | refine call_k hA ?_ (by simp -implicitDefEqProofs only [go_sem, seval, sk, Jr.cells]) (by simp -implicitDefEqProofs only [go_sem, seval, sk, opJ]) | refine call_d hA ?_ (by simp -implicitDefEqProofs only [go_sem, seval, sk, Jr.cells]) (by simp -implicitDefEqProofs only [go_sem, seval, sk, opJ])
  simp -implicitDefEqProofs only [go_sem, seval, sk, opJ, Jr.cells, clF_map, a3]
  refine ⟨clF_one _ _, ?_⟩
  first | refine call_k hG ?_ | refine call_d hG ?_
  simp -implicitDefEqProofs only [go_sem, seval, sk, Jr.cells]
  first | refine call_k hB ?_ (by simp -implicitDefEqProofs only [go_sem, seval, sk, Jr.cells]) (by simp -implicitDefEqProofs only [go_sem, seval, sk, opJ]) | refine call_d hB ?_ (by simp -implicitDefEqProofs only [go_sem, seval, sk, Jr.cells]) (by simp -implicitDefEqProofs only [go_sem, seval, sk, opJ])
  simp -implicitDefEqProofs only [go_sem, seval, sk, opJ, Jr.cells, clF_map, b3, a3]
  refine ⟨clF_one _ _, ?_⟩
  first | refine call_k hG ?_ | refine call_d hG ?_
  have he : eqCells (clT j4.c) [.i .i64 12, .i .i64 (-2), .i .i64 0, .i .i64 0, .i .i64 0, .i .i64 0, .i .i64 0, .i .i64 0] = some true := by rw [f1]; rfl
  have tA : clT [5, -2, 0, 0, 0, 0, 0, 0] = [.i .i64 5, .i .i64 (-2), .i .i64 0, .i .i64 0, .i .i64 0, .i .i64 0, .i .i64 0, .i .i64 0] := rfl
  have tB : clT [12, -2, 0, 0, 0, 0, 0, 0] = [.i .i64 12, .i .i64 (-2), .i .i64 0, .i .i64 0, .i .i64 0, .i .i64 0, .i .i64 0, .i .i64 0] := rfl
  simp -implicitDefEqProofs only [go_sem, seval, sk, Jr.cells]
  refine ⟨by omega, ?_⟩
  simp -implicitDefEqProofs only [go_sem, seval, sk, t4, he, h4]
  refine ⟨clT_flat _, ?_⟩
  simp -implicitDefEqProofs only [go_sem, seval, sk, a3, ta, ua, List.append_nil]
  first | refine call_k hRA ?_ (by simp -implicitDefEqProofs only [go_sem, seval, sk, Jr.cells, tA]) | refine call_d hRA ?_ (by simp -implicitDefEqProofs only [go_sem, seval, sk, Jr.cells, tA])
  simp -implicitDefEqProofs only [go_sem, seval, sk, b3, tb]
  first | refine call_k hRB ?_ (by simp -implicitDefEqProofs only [go_sem, seval, sk, Jr.cells, tB]) | refine call_d hRB ?_ (by simp -implicitDefEqProofs only [go_sem, seval, sk, Jr.cells, tB])
  simp -implicitDefEqProofs only [go_sem, seval, sk]
end Go.Proofs.Ytlfpafdkegnkoaa.Pm
