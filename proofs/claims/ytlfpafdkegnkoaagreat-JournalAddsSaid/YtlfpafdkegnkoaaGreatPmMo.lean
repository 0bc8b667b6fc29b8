/- Texts of this proof in one file: PmEt, PmEu, PmEv, PmEw, PmEz, PmIb. No law of Go's is stated here. -/
import Derived.Test.YtlfpafdkegnkoaaGreatPmMn
import Derived.Test.YtlfpafdkegnkoaaGreatPmMm
import Derived.Test.YtlfpafdkegnkoaaGreatPmQs
set_option linter.all false
set_option maxRecDepth 100000
set_option maxHeartbeats 2000000
namespace Go.Proofs.YtlfpafdkegnkoaaGreat.Pm
open Go Go.RowKit
def Jr.room (j : Jr) (k : Int) : Prop := 100 ≤ j.s.d0.cap ∧ 100 ≤ j.s.d1.cap ∧ 21 * k ≤ j.l.dev.cap - j.l.dev.all.length ∧ (∀ x ∈ j.c, 1000000 * k - 1000000000 ≤ x ∧ x ≤ 1000000000 - 1000000 * k) ∧ j.l.next < 1000000 ∧ j.s.next < 1000000
instance decRoom (j : Jr) (k : Int) : Decidable (j.room k) := by unfold Jr.room; infer_instance
theorem get15 (x0 x1 x2 x3 x4 x5 x6 x7 x8 x9 x10 x11 x12 x13 x14 : AV) (l : List AV) (i : Nat) : (x0 :: x1 :: x2 :: x3 :: x4 :: x5 :: x6 :: x7 :: x8 :: x9 :: x10 :: x11 :: x12 :: x13 :: x14 :: l)[15 + i]? = l[i]? := by rw [Nat.add_comm]; rfl
def rmF (j : Jr) (k : Int) (i : Nat) : S := ⟨tmL [(1, .t (.i .i64 k) true), (2, .ptr 0 0), (5, .t (.i .i64 i) true)], [.var (((j.s.cells ++ j.l.cells).map fun x => .t x false) ++ clF false j.c), .row 0 1 (bT j.l.dev.all) true]⟩
theorem s_ref06_Room (j : Jr) (h : j.ok) (k : Int) (k0 : 0 ≤ k) (k1 : k ≤ 1000) : Spec Tryz.prog 28 [.agg j.cells, .i .i64 k] [] (.t (.b (decide (j.room k))) true) := by
  refine spec_k (hold mixed) b_ref06_Room [(.b (decide (j.room k)), true)] ?_
  have f := facts h
  have h8 := f.j8
  obtain ⟨q0, q1, q2⟩ := j.l.dev.ok_of h.2.1.1
  have hal : j.l.dev.all.length = j.l.dev.syn.length + j.l.dev.tail.length := by simp [Dev.all]
  have hW := s_ref01_Whole j.l.dev (ok_fineJ h).2.1.1
  rw [show j.l.dev.syn ++ j.l.dev.tail = j.l.dev.all from rfl] at hW
  have ew : IntKind.i64.wrap (j.l.dev.cap - (j.l.dev.all.length : Int)) = j.l.dev.cap - (j.l.dev.all.length : Int) := wrap_i64_id (by omega) (by omega)
  have ek : IntKind.i64.wrap (21 * k) = 21 * k := wrap_i64_id (by omega) (by omega)
  have em : IntKind.i64.wrap (1000000 * k) = 1000000 * k := wrap_i64_id (by omega) (by omega)
  have e5 : IntKind.i64.wrap (1000000000 - 1000000 * k) = 1000000000 - 1000000 * k := wrap_i64_id (by omega) (by omega)
  have e6 : IntKind.i64.wrap (1000000 * k - 1000000000) = 1000000 * k - 1000000000 := wrap_i64_id (by omega) (by omega)
  have no : ¬ j.room k → (decide (j.room k)) = false := fun g => decide_eq_false g
  simp -implicitDefEqProofs only [go_sem, seval, sk, Jr.cells, clF_map]
  by_cases c1 : j.s.d0.cap < 100
  · rw [no fun g => by have := g.1; omega]
    by_cases c2 : j.s.d1.cap < 100
    · simp -implicitDefEqProofs only [go_sem, seval, sk, eq_true c1, eq_true c2]
    · simp -implicitDefEqProofs only [go_sem, seval, sk, eq_true c1, eq_false c2]
  · by_cases c2 : j.s.d1.cap < 100
    · rw [no fun g => by have := g.2.1; omega]
      simp -implicitDefEqProofs only [go_sem, seval, sk, eq_false c1, eq_true c2]
    · simp -implicitDefEqProofs only [go_sem, seval, sk, eq_false c1, eq_false c2]
      first | refine call_k hW ?_ (by simp -implicitDefEqProofs only [go_sem, seval, sk, Dev.cells]) | refine call_d hW ?_ (by simp -implicitDefEqProofs only [go_sem, seval, sk, Dev.cells])
      simp -implicitDefEqProofs only [go_sem, seval, sk, ew, ek]
      by_cases c3 : j.l.dev.cap - (j.l.dev.all.length : Int) < 21 * k
      · rw [no fun g => by have := g.2.2.1; omega]
        simp -implicitDefEqProofs only [go_sem, seval, sk, eq_true c3]
      · simp -implicitDefEqProofs only [go_sem, seval, sk, eq_false c3]
        refine loop_l (α := Nat) (rmF j k) (fun i => 8 - i) (fun i => i ≤ 8 ∧ ∀ q (hq : q < j.c.length), q < i → 1000000 * k - 1000000000 ≤ j.c[q] ∧ j.c[q] ≤ 1000000000 - 1000000 * k) 0 (by simp -implicitDefEqProofs only [go_sem, seval, rmF]) ⟨Nat.zero_le _, fun q _ hq => by omega⟩ ?_
        intro i hi R hR
        obtain ⟨hi, hq⟩ := hi
        simp -implicitDefEqProofs only [go_sem, seval, sk, rmF]
        refine wcond_mk (fun hh => ?_) (fun hh => ?_)
        · have hi' : i < 8 := by have := of_decide_eq_true hh; omega
          have hil : i < j.c.length := by omega
          have hil2 : i < (clF false j.c).length := by rw [clF_length]; exact hil
          have e2 : ((i : Int) < 8) = True := eq_true (by omega)
          have e4 : IntKind.i64.wrap ((i : Int) + 1) = ((i + 1 : Nat) : Int) := by rw [wrap_i64_id (by omega) (by omega)]; omega
          have hget : (clF false j.c)[i]? = some (.t (.i .i64 j.c[i]) false) := clF_get _ hil
          simp -implicitDefEqProofs only [go_sem, seval, sk, e2, Nat.mul_one, em, e5, e6, get15, hget]
          by_cases d1 : 1000000000 - 1000000 * k < j.c[i]
          · rw [no fun g => by have := g.2.2.2.1 _ (List.getElem_mem hil); omega]
            simp -implicitDefEqProofs only [go_sem, seval, sk, eq_true d1]
          · by_cases d2 : j.c[i] < 1000000 * k - 1000000000
            · rw [no fun g => by have := g.2.2.2.1 _ (List.getElem_mem hil); omega]
              simp -implicitDefEqProofs only [go_sem, seval, sk, eq_false d1, e2, em, e5, e6, get15, hget, Nat.mul_one, eq_true d2]
            · simp -implicitDefEqProofs only [go_sem, seval, sk, eq_false d1, e2, em, e5, e6, get15, hget, Nat.mul_one, eq_false d2, e4]
              refine hR (i + 1) _ (by simp -implicitDefEqProofs only [go_sem, seval, rmF]) ⟨by omega, fun q h1 h2 => ?_⟩ (by omega)
              rcases Nat.lt_or_ge q i with h3 | h3
              · exact hq q h1 h3
              · obtain rfl : q = i := by omega
                omega
        · have hi' : i = 8 := by have := of_decide_eq_false hh; omega
          subst hi'
          have hcs : ∀ x ∈ j.c, 1000000 * k - 1000000000 ≤ x ∧ x ≤ 1000000000 - 1000000 * k := fun x hx => by
            obtain ⟨q, h1, rfl⟩ := List.mem_iff_getElem.1 hx
            exact hq q h1 (by omega)
          simp -implicitDefEqProofs only [go_sem, seval, sk]
          by_cases c4 : j.l.next < 1000000
          · by_cases c5 : j.s.next < 1000000
            · have yes : decide (j.room k) = true := decide_eq_true ⟨by omega, by omega, by omega, hcs, c4, c5⟩
              rw [yes]
              simp -implicitDefEqProofs only [go_sem, seval, sk, eq_true c4, eq_true c5]
            · rw [no fun g => c5 g.2.2.2.2.2]
              simp -implicitDefEqProofs only [go_sem, seval, sk, eq_true c4, eq_false c5]
          · rw [no fun g => c4 g.2.2.2.2.1]
            simp -implicitDefEqProofs only [go_sem, seval, sk, eq_false c4]
theorem given_fine {j : Jr} (hj : j.given) (hg : greatJ j = false) : j.fine := greatJ_fine hg hj.s hj.f hj.n hj.len hj.c
theorem s_law06_fit (j : Jr) (hj : j.given) (k : Int) (k0 : 0 ≤ k) (k1 : k ≤ 1000) : Spec Tryz.prog 22 [.agg j.cells, .i .i64 k] [] (.t (.b (!greatJ j && (decide j.ok && decide (j.room k)))) true) := by
  refine spec_k (hold mixed) b_law06_fit [(.b (!greatJ j && (decide j.ok && decide (j.room k))), true)] ?_
  have hG := s_ref06_Great j
  have h8 := hj.len
  have htk := clF_take (l := false) h8
  simp -implicitDefEqProofs only [go_sem, seval, sk, Jr.cells, clF_map]
  refine ⟨by omega, ?_⟩
  first | refine call_k hG ?_ (by simp -implicitDefEqProofs only [go_sem, seval, sk, Jr.cells, htk]) | refine call_d hG ?_ (by simp -implicitDefEqProofs only [go_sem, seval, sk, Jr.cells, htk])
  cases hg : greatJ j with
  | true => simp -implicitDefEqProofs only [go_sem, seval, sk]
  | false =>
    have hf := given_fine hj hg
    have hC := s_ref06_Check j hf
    simp -implicitDefEqProofs only [go_sem, seval, sk, h8]
    first | refine call_k hC ?_ (by simp -implicitDefEqProofs only [go_sem, seval, sk, Jr.cells, htk]) | refine call_d hC ?_ (by simp -implicitDefEqProofs only [go_sem, seval, sk, Jr.cells, htk])
    by_cases h : j.ok
    · rw [chkJ_ok h, decide_eq_true h]
      have hR := s_ref06_Room j h k k0 k1
      simp -implicitDefEqProofs only [go_sem, seval, sk, h8]
      first | refine call_k hR ?_ (by simp -implicitDefEqProofs only [go_sem, seval, sk, Jr.cells, htk]) | refine call_d hR ?_ (by simp -implicitDefEqProofs only [go_sem, seval, sk, Jr.cells, htk])
      simp -implicitDefEqProofs only [go_sem, seval, sk]
    · rw [chkJ_bad h, decide_eq_false h]
      simp -implicitDefEqProofs only [go_sem, seval, sk]
theorem halved_fine {j : Jr} (hj : j.fine) (st o : Int) : (halved j st o).1.fine := by
  obtain ⟨hs, hl, h8, hc⟩ := hj
  by_cases c : 0 < st
  · by_cases c1 : (saveS j.s (ptB j)).2.2 = 0
    · rw [halved_half c c1]
      obtain ⟨a, b⟩ := halfS_small' j.s (ptB j) st o
      rcases halfS_next j.s (ptB j) st o with g | g
      · exact ⟨a, b, by rw [g]; exact hs.2.2⟩
      · exact ⟨a, b, by rw [g]; decide⟩
    · rw [halved_save c c1]
      exact ⟨zeroD_small, zeroD_small, by show (-9223372036854775808 : Int) ≤ 0; decide, by show (0 : Int) ≤ 9223372036854775807; decide⟩
  · rw [halved_none c]
    exact ⟨crash_small _ _, crash_small _ _, hs.2.2⟩
theorem crashJ_fine {j : Jr} (hj : j.fine) (st k : Int) : (crashJ j st k).1.s.fine ∧ (crashJ j st k).1.l.dev.small ∧ (crashJ j st k).1.c.length = 8 := by
  have hz : zeroJ.s.fine ∧ zeroJ.l.dev.small ∧ zeroJ.c.length = 8 := ⟨⟨zeroD_small, zeroD_small, by decide⟩, zeroD_small, rfl⟩
  unfold crashJ
  by_cases c0 : j.ok
  · rw [if_pos c0]
    by_cases c1 : 0 ≤ st ∧ st ≤ 5
    · rw [if_pos c1]
      by_cases c2 : (halved j (max 0 (min (st - 1) 3)) (if st = 3 then k else 0)).2 = 0
      · rw [if_pos c2]
        by_cases c3 : ((crLog j st).dev.crash (if st = 3 then 0 else k)).2 = 0
        · rw [if_pos c3]
          exact ⟨halved_fine hj _ _, crash_small _ _, rfl⟩
        · rw [if_neg c3]; exact hz
      · rw [if_neg c2]; exact hz
    · rw [if_neg c1]; exact hz
  · rw [if_neg c0]; exact hz
theorem recoverJ_len {j : Jr} : (recoverJ j).1.c.length = 8 := by
  unfold recoverJ
  split
  · split
    · split
      · rename_i h
        exact (facts h).j8
      · rfl
    · rfl
  · rfl
def recoveredB (d : Jr) (e : Int) (cs : List Int) (k : Int) : Bool := decide (e = 0) && (decide ((recoverJ d).2.2 = 0) && (decide ((recoverJ d).1.c = cs) && (decide ((recoverJ d).2.1 = k) && decide ((recoverJ d).1.l.next = k))))
theorem s_law06_recovered (d : Jr) (hs : d.s.fine) (hd : d.l.dev.small) (h8 : d.c.length = 8) (e : Int) (cs : List Int) (c8 : cs.length = 8) (k : Int) :
    Spec Tryz.prog 67 [.agg d.cells, .i .i64 e, .agg (clT cs), .i .i64 k] [] (.t (.b (recoveredB d e cs k)) true) := by
  refine spec_k (hold mixed) b_law06_recovered [(.b (recoveredB d e cs k), true)] ?_
  have hR := s_journal_Recover d hs hd h8
  have hl := recoverJ_len (j := d)
  obtain ⟨⟨r, n, f⟩, hr⟩ : ∃ p, recoverJ d = p := ⟨_, rfl⟩
  have hB : recoveredB d e cs k = (decide (e = 0) && (decide (f = 0) && (decide (r.c = cs) && (decide (n = k) && decide (r.l.next = k))))) := by unfold recoveredB; rw [hr]
  rw [hr] at hR hl
  simp only at hl
  rw [hB]
  have htk := clF_take (l := false) h8
  have htr := clF_take (l := true) hl
  have htc := clF_take (l := false) c8
  simp -implicitDefEqProofs only [go_sem, seval, sk, Jr.cells, clF_map]
  refine ⟨by omega, ?_⟩
  first | refine call_k hR ?_ (by simp -implicitDefEqProofs only [go_sem, seval, sk, Jr.cells, htk]) (by simp -implicitDefEqProofs only [go_sem, seval, sk, opJ3]) | refine call_d hR ?_ (by simp -implicitDefEqProofs only [go_sem, seval, sk, Jr.cells, htk]) (by simp -implicitDefEqProofs only [go_sem, seval, sk, opJ3])
  simp -implicitDefEqProofs only [go_sem, seval, sk, opJ3, Jr.cells, clF_map, hl]
  refine ⟨clF_one _ _, ?_⟩
  by_cases c1 : e = 0
  · by_cases c2 : f = 0
    · subst c1 c2
      simp -implicitDefEqProofs only [go_sem, seval, sk, hl, htr, htc, c8, plains_clF true hl, plains_clF false c8, eqCells_clT (show r.c.length = cs.length by omega)]
      refine ⟨clT_flat _, ?_⟩
      by_cases c3 : r.c = cs
      · by_cases c4 : n = k
        · subst c4
          by_cases c5 : r.l.next = n
          · simp -implicitDefEqProofs only [go_sem, seval, sk, decide_eq_true c3, c5, decide_eq_true (show n = n from rfl), decide_eq_true (show (0 : Int) = 0 from rfl)]
          · have c5' : (r.l.next == n) = false := by simp [c5]
            simp -implicitDefEqProofs only [go_sem, seval, sk, decide_eq_true c3, c5', decide_eq_false c5]
        · have c4' : (n == k) = false := by simp [c4]
          simp -implicitDefEqProofs only [go_sem, seval, sk, decide_eq_true c3, c4', decide_eq_false c4]
      · simp -implicitDefEqProofs only [go_sem, seval, sk, decide_eq_false c3]
    · have c2' : (f == 0) = false := by simp [c2]
      subst c1
      simp -implicitDefEqProofs only [go_sem, seval, sk, c2', decide_eq_false c2]
  · have c1' : (e == 0) = false := by simp [c1]
    simp -implicitDefEqProofs only [go_sem, seval, sk, c1', decide_eq_false c1]
def J0 : Jr := (newJ 1000).1
def J1 : Jr := (doJ J0 (0, 5)).1
def J2 : Jr := (doJ J1 (1, -2)).1
def J3 : Jr := (saveJ J2).1
def J4 : Jr := (doJ J3 (0, 7)).1
instance decSmallJ (d : Dev) : Decidable d.small := by unfold Dev.small; infer_instance
instance decFineS (s : Slt) : Decidable s.fine := by unfold Slt.fine; infer_instance
instance decFineW (s : WLog) : Decidable s.fine := by unfold WLog.fine; infer_instance
instance decFineJ (j : Jr) : Decidable j.fine := by unfold Jr.fine; infer_instance
theorem fineJ0 : J0.fine := by decide +kernel
theorem fineJ1 : J1.fine := by decide +kernel
theorem fineJ2 : J2.fine := by decide +kernel
theorem fineJ3 : J3.fine := by decide +kernel
theorem fineJ4 : J4.fine := by decide +kernel
theorem s_law06_given : Spec Tryz.prog 66 [] [] (.t (.agg J4.cells) true) := by
  refine spec_k (hold mixed) b_law06_given [(.agg J4.cells, true)] ?_
  have g0 := s_journal_New 1000
  have g1 := s_journal_Do J0 fineJ0 (0, 5) (by decide) (by decide)
  have g2 := s_journal_Do J1 fineJ1 (1, -2) (by decide) (by decide)
  have g3 := s_journal_Save J2 fineJ2
  have g4 := s_journal_Do J3 fineJ3 (0, 7) (by decide) (by decide)
  rw [show newJ 1000 = (J0, (newJ 1000).2) from rfl] at g0
  rw [show doJ J0 (0, 5) = (J1, (doJ J0 (0, 5)).2.1, (doJ J0 (0, 5)).2.2) from rfl] at g1
  rw [show doJ J1 (1, -2) = (J2, (doJ J1 (1, -2)).2.1, (doJ J1 (1, -2)).2.2) from rfl] at g2
  rw [show saveJ J2 = (J3, (saveJ J2).2) from rfl] at g3
  rw [show doJ J3 (0, 7) = (J4, (doJ J3 (0, 7)).2.1, (doJ J3 (0, 7)).2.2) from rfl] at g4
  have h0 := fineJ0.2.2.1
  have h1 := fineJ1.2.2.1
  have h2 := fineJ2.2.2.1
  have h3 := fineJ3.2.2.1
  have h4 := fineJ4.2.2.1
  generalize (newJ 1000).2 = e0 at *
  generalize (doJ J0 (0, 5)).2.1 = n1 at *
  generalize (doJ J0 (0, 5)).2.2 = e1 at *
  generalize (doJ J1 (1, -2)).2.1 = n2 at *
  generalize (doJ J1 (1, -2)).2.2 = e2 at *
  generalize (saveJ J2).2 = e3 at *
  generalize (doJ J3 (0, 7)).2.1 = n4 at *
  generalize (doJ J3 (0, 7)).2.2 = e4 at *
  generalize J0 = j0 at *
  generalize J1 = j1 at *
  generalize J2 = j2 at *
  generalize J3 = j3 at *
  generalize J4 = j4 at *
  have t0 := clF_take (l := true) h0
  have t1 := clF_take (l := true) h1
  have t2 := clF_take (l := true) h2
  have t3 := clF_take (l := true) h3
  have u0 := clF_drop (l := true) h0
  have u1 := clF_drop (l := true) h1
  have u2 := clF_drop (l := true) h2
  have u3 := clF_drop (l := true) h3
  have u4 := clF_drop (l := true) h4
  simp -implicitDefEqProofs only [go_sem, seval, sk]
  first | refine call_k g0 ?_ (by simp -implicitDefEqProofs only [go_sem, seval, sk]) (by simp -implicitDefEqProofs only [go_sem, seval, sk, opJ]) | refine call_d g0 ?_ (by simp -implicitDefEqProofs only [go_sem, seval, sk]) (by simp -implicitDefEqProofs only [go_sem, seval, sk, opJ])
  simp -implicitDefEqProofs only [go_sem, seval, sk, opJ, Jr.cells, clF_map, h0]
  refine ⟨clF_one _ _, ?_⟩
  simp -implicitDefEqProofs only [go_sem, seval, sk, h0, t0]
  first | refine call_k g1 ?_ (by simp -implicitDefEqProofs only [go_sem, seval, sk, Jr.cells]) (by simp -implicitDefEqProofs only [go_sem, seval, sk, opJ3]) | refine call_d g1 ?_ (by simp -implicitDefEqProofs only [go_sem, seval, sk, Jr.cells]) (by simp -implicitDefEqProofs only [go_sem, seval, sk, opJ3])
  simp -implicitDefEqProofs only [go_sem, seval, sk, opJ3, Jr.cells, clF_map, h0, h1, u0, List.append_nil]
  refine ⟨clF_one _ _, ?_⟩
  simp -implicitDefEqProofs only [go_sem, seval, sk, h1, t1]
  first | refine call_k g2 ?_ (by simp -implicitDefEqProofs only [go_sem, seval, sk, Jr.cells]) (by simp -implicitDefEqProofs only [go_sem, seval, sk, opJ3]) | refine call_d g2 ?_ (by simp -implicitDefEqProofs only [go_sem, seval, sk, Jr.cells]) (by simp -implicitDefEqProofs only [go_sem, seval, sk, opJ3])
  simp -implicitDefEqProofs only [go_sem, seval, sk, opJ3, Jr.cells, clF_map, h1, h2, u1, List.append_nil]
  refine ⟨clF_one _ _, ?_⟩
  simp -implicitDefEqProofs only [go_sem, seval, sk, h2, t2]
  first | refine call_k g3 ?_ (by simp -implicitDefEqProofs only [go_sem, seval, sk, Jr.cells]) (by simp -implicitDefEqProofs only [go_sem, seval, sk, opJ]) | refine call_d g3 ?_ (by simp -implicitDefEqProofs only [go_sem, seval, sk, Jr.cells]) (by simp -implicitDefEqProofs only [go_sem, seval, sk, opJ])
  simp -implicitDefEqProofs only [go_sem, seval, sk, opJ, Jr.cells, clF_map, h2, h3, u2, List.append_nil]
  refine ⟨clF_one _ _, ?_⟩
  simp -implicitDefEqProofs only [go_sem, seval, sk, h3, t3]
  first | refine call_k g4 ?_ (by simp -implicitDefEqProofs only [go_sem, seval, sk, Jr.cells]) (by simp -implicitDefEqProofs only [go_sem, seval, sk, opJ3]) | refine call_d g4 ?_ (by simp -implicitDefEqProofs only [go_sem, seval, sk, Jr.cells]) (by simp -implicitDefEqProofs only [go_sem, seval, sk, opJ3])
  simp -implicitDefEqProofs only [go_sem, seval, sk, opJ3, Jr.cells, clF_map, h3, h4, u3, List.append_nil]
  refine ⟨clF_one _ _, ?_⟩
  have t4 := clF_take (l := true) h4
  simp -implicitDefEqProofs only [go_sem, seval, sk, h4, t4, u4, List.append_nil]
  exact clF_one _ _
def aliveA : Jr × Int := crashJ J4 0 20
def aliveB : Jr × Int := crashJ J4 0 21
theorem alive_facts : J4.c = [12, -2, 0, 0, 0, 0, 0, 0] ∧ recoveredB aliveA.1 aliveA.2 [5, -2, 0, 0, 0, 0, 0, 0] 2 = true ∧ recoveredB aliveB.1 aliveB.2 [12, -2, 0, 0, 0, 0, 0, 0] 3 = true := by decide +kernel
theorem s_law06_alive : Spec Tryz.prog 23 [] [] (.t (.b true) true) := by
  refine spec_k (hold mixed) b_law06_alive [(.b true, true)] ?_
  have hG := s_law06_given
  obtain ⟨f1, f2, f3⟩ := alive_facts
  have hA := s_journal_Crash J4 fineJ4 0 20 (by decide) (by decide) (by decide) (by decide)
  have hB := s_journal_Crash J4 fineJ4 0 21 (by decide) (by decide) (by decide) (by decide)
  obtain ⟨a1, a2, a3⟩ := crashJ_fine fineJ4 0 20
  obtain ⟨b1, b2, b3⟩ := crashJ_fine fineJ4 0 21
  have hRA := s_law06_recovered aliveA.1 a1 a2 a3 aliveA.2 [5, -2, 0, 0, 0, 0, 0, 0] rfl 2
  have hRB := s_law06_recovered aliveB.1 b1 b2 b3 aliveB.2 [12, -2, 0, 0, 0, 0, 0, 0] rfl 3
  rw [f2] at hRA
  rw [f3] at hRB
  have h4 := fineJ4.2.2.1
  change Spec _ _ _ _ (resV ((opJ aliveA).map AV.ofT)) at hA
  change Spec _ _ _ _ (resV ((opJ aliveB).map AV.ofT)) at hB
  change aliveA.1.c.length = 8 at a3
  change aliveB.1.c.length = 8 at b3
  generalize aliveA = pa at *
  generalize aliveB = pb at *
  generalize J4 = j4 at *
  obtain ⟨da, ea⟩ := pa
  obtain ⟨db, eb⟩ := pb
  simp only at a3 b3 hRA hRB
  have ta := clF_take (l := true) a3
  have tb := clF_take (l := true) b3
  have ua := clF_drop (l := true) a3
  have t4 := clT_take h4
  simp -implicitDefEqProofs only [go_sem, seval, sk]
  first | refine call_k hG ?_ | refine call_d hG ?_
  simp -implicitDefEqProofs only [go_sem, seval, sk, Jr.cells]
  first | refine call_k hA ?_ (by simp -implicitDefEqProofs only [go_sem, seval, sk, Jr.cells]) (by simp -implicitDefEqProofs only [go_sem, seval, sk, opJ]) | refine call_d hA ?_ (by simp -implicitDefEqProofs only [go_sem, seval, sk, Jr.cells]) (by simp -implicitDefEqProofs only [go_sem, seval, sk, opJ])
  simp -implicitDefEqProofs only [go_sem, seval, sk, opJ, Jr.cells, clF_map, a3]
  refine ⟨clF_one _ _, ?_⟩
  first | refine call_k hG ?_ | refine call_d hG ?_
  simp -implicitDefEqProofs only [go_sem, seval, sk, Jr.cells]
  first | refine call_k hB ?_ (by simp -implicitDefEqProofs only [go_sem, seval, sk, Jr.cells]) (by simp -implicitDefEqProofs only [go_sem, seval, sk, opJ]) | refine call_d hB ?_ (by simp -implicitDefEqProofs only [go_sem, seval, sk, Jr.cells]) (by simp -implicitDefEqProofs only [go_sem, seval, sk, opJ])
  simp -implicitDefEqProofs only [go_sem, seval, sk, opJ, Jr.cells, clF_map, b3, a3]
  refine ⟨clF_one _ _, ?_⟩
  first | refine call_k hG ?_ | refine call_d hG ?_
  have he : eqCells (clT j4.c) [.i .i64 12, .i .i64 (-2), .i .i64 0, .i .i64 0, .i .i64 0, .i .i64 0, .i .i64 0, .i .i64 0] = some true := by rw [f1]; rfl
  have tA : clT [5, -2, 0, 0, 0, 0, 0, 0] = [.i .i64 5, .i .i64 (-2), .i .i64 0, .i .i64 0, .i .i64 0, .i .i64 0, .i .i64 0, .i .i64 0] := rfl
  have tB : clT [12, -2, 0, 0, 0, 0, 0, 0] = [.i .i64 12, .i .i64 (-2), .i .i64 0, .i .i64 0, .i .i64 0, .i .i64 0, .i .i64 0, .i .i64 0] := rfl
  simp -implicitDefEqProofs only [go_sem, seval, sk, Jr.cells]
  refine ⟨by omega, ?_⟩
  simp -implicitDefEqProofs only [go_sem, seval, sk, t4, he, h4]
  refine ⟨clT_flat _, ?_⟩
  simp -implicitDefEqProofs only [go_sem, seval, sk, a3, ta, ua, List.append_nil]
  first | refine call_k hRA ?_ (by simp -implicitDefEqProofs only [go_sem, seval, sk, Jr.cells, tA]) | refine call_d hRA ?_ (by simp -implicitDefEqProofs only [go_sem, seval, sk, Jr.cells, tA])
  simp -implicitDefEqProofs only [go_sem, seval, sk, b3, tb]
  first | refine call_k hRB ?_ (by simp -implicitDefEqProofs only [go_sem, seval, sk, Jr.cells, tB]) | refine call_d hRB ?_ (by simp -implicitDefEqProofs only [go_sem, seval, sk, Jr.cells, tB])
  simp -implicitDefEqProofs only [go_sem, seval, sk]
set_option maxHeartbeats 1000000
structure SavesF (j : Jr) (stage : Int) : Prop where
  back : ∃ r : Jr, recoverJ j = (r, j.l.next, 0) ∧ r.c = j.c ∧ r.l = j.l.all ∧ r.s = j.s
  sync : syncJ j = (⟨j.s, j.l.all, j.c⟩, 0)
  save : ∃ s2 : Slt, saveJ j = (⟨s2, j.l.none, j.c⟩, 0) ∧ s2.ok ∧ (Jr.mk s2 j.l.none j.c).ok
  crash : ∃ d : Jr, crashJ j stage 0 = (d, 0) ∧ ∃ a : Jr, recoverJ d = (a, j.l.next, 0) ∧ a.c = j.c
theorem stepC_comm (c : List Int) (m n : Int × Int) : stepC (stepC c m) n = stepC (stepC c n) m := by
  unfold stepC
  generalize m.1.toNat = i
  generalize n.1.toNat = k
  by_cases h : i = k
  · subst h
    by_cases hi : i < c.length
    · simp only [List.getElem?_set_self hi, Option.getD_some, List.set_set, List.getElem?_eq_getElem hi]
      congr 1
      omega
    · have hs : ∀ v, c.set i v = c := fun v => List.set_eq_of_length_le (by omega)
      simp only [hs]
  · rw [List.getElem?_set_ne h, List.getElem?_set_ne (fun e => h e.symm), List.set_comm _ _ h]
def goC (c : List Int) (l : List (Int × Int)) : List Int := l.foldl stepC c
theorem goC_len (l : List (Int × Int)) : ∀ c : List Int, (goC c l).length = c.length := by
  induction l with
  | nil => intro c; rfl
  | cons m l ih => intro c; show (goC (stepC c m) l).length = _; rw [ih, stepC_len]
theorem goC_app (c : List Int) (a b : List (Int × Int)) : goC c (a ++ b) = goC (goC c a) b := List.foldl_append
theorem goC_snoc (c : List Int) (l : List (Int × Int)) (m : Int × Int) : goC c (l ++ [m]) = stepC (goC c l) m := by rw [goC_app]; rfl
theorem goC_push (l : List (Int × Int)) : ∀ (c : List Int) (m : Int × Int), goC (stepC c m) l = stepC (goC c l) m := by
  induction l with
  | nil => intro c m; rfl
  | cons n l ih =>
    intro c m
    show goC (stepC (stepC c m) n) l = stepC (goC (stepC c n) l) m
    rw [stepC_comm, ih]
theorem goC_reverse (l : List (Int × Int)) : ∀ c : List Int, goC c l.reverse = goC c l := by
  induction l with
  | nil => intro c; rfl
  | cons m l ih =>
    intro c
    rw [List.reverse_cons, goC_snoc, ih]
    show _ = goC (stepC c m) l
    rw [goC_push]
def inB (c : List Int) (b : Int) : Prop := ∀ x ∈ c, -b ≤ x ∧ x ≤ b
theorem inB_st {c : List Int} {b : Int} (h : inB c b) (hb : b ≤ 1000000000) : stOK c = true := List.all_eq_true.2 fun x hx => by
  have := h x hx
  simp only [Bool.and_eq_true, decide_eq_true_eq]
  omega
theorem inB_step {c : List Int} {b : Int} (h : inB c b) (hb : 0 ≤ b) {m : Int × Int} (hm : mOK m = true) : inB (stepC c m) (b + 1000000) := fun x hx => by
  obtain ⟨m0, m1, m2, m3⟩ := (mOK_iff m).1 hm
  unfold stepC at hx
  rcases List.mem_or_eq_of_mem_set hx with hx | rfl
  · have := h x hx; omega
  · cases hg : c[m.1.toNat]? with
    | none => simp only [Option.getD_none]; omega
    | some y =>
      have := h y (List.mem_of_getElem? hg)
      simp only [Option.getD_some]
      omega
theorem apply_go : ∀ (l : List (Int × Int)) (c : List Int) (b : Int), 0 ≤ b → inB c b → (∀ m ∈ l, mOK m = true) → b + 1000000 * l.length ≤ 1000000000 → applyV c l = (goC c l, 0) ∧ inB (goC c l) (b + 1000000 * l.length)
  | [], c, b, hb, h, _, hl => ⟨by rw [applyV, if_pos (inB_st h (by simpa using hl))]; rfl, by intro x hx; have := h x hx; simp only [List.length_nil]; omega⟩
  | m :: l, c, b, hb, h, hm, hl => by
    rw [List.length_cons] at hl
    have h1 := inB_step h hb (hm m (by simp))
    obtain ⟨g1, g2⟩ := apply_go l (stepC c m) (b + 1000000) (by omega) h1 (fun n hn => hm n (by simp [hn])) (by omega)
    have hst := inB_st h1 (by omega)
    refine ⟨?_, ?_⟩
    · rw [applyV, if_pos (inB_st h (by omega)), appK, if_pos (hm m (by simp)), if_pos hst]
      rw [applyV, if_pos hst] at g1
      exact g1
    · rw [List.length_cons]
      have e : b + 1000000 * ((l.length + 1 : Nat) : Int) = b + 1000000 + 1000000 * (l.length : Int) := by omega
      rw [e]
      exact g2
structure After (j0 j : Jr) (l : List (Int × Int)) : Prop where
  ok : j.ok
  next : j.l.next = j0.l.next + l.length
  cap : j.l.dev.cap = j0.l.dev.cap
  len : (j.l.dev.all.length : Int) = j0.l.dev.all.length + 21 * l.length
  c : j.c = goC j0.c l
theorem after_nil {j : Jr} (h : j.ok) : After j j [] := ⟨h, by simp, rfl, by simp, rfl⟩
theorem room_in {j : Jr} {k : Int} (h : j.room k) : inB j.c (1000000000 - 1000000 * k) := fun x hx => by
  have := h.2.2.2.1 x hx
  omega
theorem after_do {j0 j : Jr} (h0 : j0.room 21) {l : List (Int × Int)} (h : After j0 j l) (hl : l.length < 20) (hv : ∀ m ∈ l, mOK m = true) {m : Int × Int} (hm : mOK m = true) :
    ∃ j2 : Jr, doJ j m = (j2, j.l.next, 0) ∧ After j0 j2 (l ++ [m]) := by
  obtain ⟨r0, r1, r2, r3, r4, r5⟩ := h0
  have hin := room_in ⟨r0, r1, r2, r3, r4, r5⟩
  obtain ⟨g1, g2⟩ := apply_go l j0.c (1000000000 - 1000000 * 21) (by omega) hin hv (by omega)
  rw [← h.c] at g2
  have g3 := inB_st (inB_step g2 (by omega) hm) (by omega)
  have hn := h.next
  have hc := h.cap
  have hle := h.len
  obtain ⟨l2, q1, q2, q3, q4, q5, q6, q7, q8, q9⟩ := do_go h.ok hm g3 (by omega) (by rw [hc]; omega)
  have hb : (bytesL ⟨j.l.next, wrB m⟩).length = 21 := by rw [bytesL_length]; simp [wrB_len]
  refine ⟨_, q1, q2, ?_, ?_, ?_, ?_⟩
  · show l2.next = _
    rw [q4, hn, List.length_append]
    simp
    omega
  · show l2.dev.cap = _
    rw [q7, hc]
  · show (l2.dev.all.length : Int) = _
    rw [q8, List.length_append, List.length_append, hb]
    simp
    omega
  · show stepC j.c m = _
    rw [goC_snoc, h.c]
structure Live (j0 j : Jr) (st : List (List Int)) (safe : Int) (used : Nat) : Prop where
  ok : j.ok
  ne : 0 < st.length
  cnt : st.length ≤ used + 1
  next : j.l.next = j0.l.next + ((st.length : Int) - 1)
  cap : j.l.dev.cap = j0.l.dev.cap
  len : (j.l.dev.all.length : Int) ≤ j0.l.dev.all.length + 21 * ((st.length : Int) - 1)
  cells : inB j.c (1000000000 - 1000000 * 21 + 1000000 * ((st.length : Int) - 1))
  st8 : ∀ c ∈ st, c.length = 8
  at' : ∀ (i : Nat) (h : i < st.length), (baseV j.s).1 ≤ j0.l.next + i → st[i] = j.at (j0.l.next + i)
  sure : 0 ≤ safe → j0.l.next + safe ≤ j.sure
  low : -1 ≤ safe
  high : safe ≤ (st.length : Int) - 1
  snext : j.s.next ≤ j0.s.next + used
  cap0 : 100 ≤ j.s.d0.cap
  cap1 : 100 ≤ j.s.d1.cap
structure CrashF (j0 j : Jr) (st : List (List Int)) (safe stage keep : Int) (r : Jr) (n : Int) : Prop where
  rec' : recoverJ (crashJ j stage keep).1 = (r, n, 0)
  ok : r.ok
  next : r.l.next = n
  high : n ≤ j0.l.next + ((st.length : Int) - 1)
  low : n < j0.l.next → safe < 0
  safe : j0.l.next ≤ n → j0.l.next + safe ≤ n
  cells : ∀ i : Nat, (i : Int) = n - j0.l.next → st[i]? = some r.c
  stage : 0 < stage → n = j0.l.next + ((st.length : Int) - 1)
end Go.Proofs.YtlfpafdkegnkoaaGreat.Pm
