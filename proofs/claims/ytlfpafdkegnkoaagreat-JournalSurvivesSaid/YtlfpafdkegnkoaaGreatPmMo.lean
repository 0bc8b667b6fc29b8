/- Texts of this proof in one file: PmEt, PmEu, PmEv, PmEw, PmEz, PmIb, PmIa. No law of Go's is stated here. -/
import Derived.Test.YtlfpafdkegnkoaaGreatPmMn
import Derived.Test.YtlfpafdkegnkoaaGreatPmMm
import Derived.Test.YtlfpafdkegnkoaaGreatPmQs
set_option linter.all false
set_option maxRecDepth 100000
set_option maxHeartbeats 2000000
namespace Go.Proofs.YtlfpafdkegnkoaaGreat.Pm
open Go Go.RowKit
def Jr.room (j : Jr) (k : Int) : Prop := 100 ≤ j.s.d0.cap ∧ 100 ≤ j.s.d1.cap ∧ 21 * k ≤ j.l.dev.cap - j.l.dev.all.length ∧ (∀ x ∈ j.c, 1000000 * k - 1000000000 ≤ x ∧ x ≤ 1000000000 - 1000000 * k) ∧ j.l.next < 1000000 ∧ j.s.next < 1000000
instance decRoom (j : Jr) (k : Int) : Decidable (j.room k) := by unfold Jr.room; infer_instance
theorem get15 (x0 x1 x2 x3 x4 x5 x6 x7 x8 x9 x10 x11 x12 x13 x14 : AV) (l : List AV) (i : Nat) : (x0 :: x1 :: x2 :: x3 :: x4 :: x5 :: x6 :: x7 :: x8 :: x9 :: x10 :: x11 :: x12 :: x13 :: x14 :: l)[15 + i]? = l[i]? := by rw [Nat.add_comm]; rfl
def rmF (j : Jr) (k : Int) (i : Nat) : S := ⟨tmL [(1, .t (.i .i64 k) true), (2, .ptr 0 0), (5, .t (.i .i64 i) true)], [.var (((j.s.cells ++ j.l.cells).map fun x => .t x false) ++ clF false j.c), .row 0 1 (bT j.l.dev.all) true]⟩
theorem s_ref06_Room (j : Jr) (h : j.ok) (k : Int) (k0 : 0 ≤ k) (k1 : k ≤ 1000) : Spec Tryz.prog 28 [.agg j.cells, .i .i64 k] [] (.t (.b (decide (j.room k))) true) := by
  refine spec_k (hold mixed) b_ref06_Room [(.b (decide (j.room k)), true)] ?_
  have f := facts h
  have h8 := f.j8
  obtain ⟨q0, q1, q2⟩ := j.l.dev.ok_of h.2.1.1
  have hal : j.l.dev.all.length = j.l.dev.syn.length + j.l.dev.tail.length := by simp [Dev.all]
  have hW := s_ref01_Whole j.l.dev (ok_fineJ h).2.1.1
  rw [show j.l.dev.syn ++ j.l.dev.tail = j.l.dev.all from rfl] at hW
  have ew : IntKind.i64.wrap (j.l.dev.cap - (j.l.dev.all.length : Int)) = j.l.dev.cap - (j.l.dev.all.length : Int) := wrap_i64_id (by omega) (by omega)
  have ek : IntKind.i64.wrap (21 * k) = 21 * k := wrap_i64_id (by omega) (by omega)
  have em : IntKind.i64.wrap (1000000 * k) = 1000000 * k := wrap_i64_id (by omega) (by omega)
  have e5 : IntKind.i64.wrap (1000000000 - 1000000 * k) = 1000000000 - 1000000 * k := wrap_i64_id (by omega) (by omega)
  have e6 : IntKind.i64.wrap (1000000 * k - 1000000000) = 1000000 * k - 1000000000 := wrap_i64_id (by omega) (by omega)
  have no : ¬ j.room k → (decide (j.room k)) = false := fun g => decide_eq_false g
  simp -implicitDefEqProofs only [go_sem, seval, sk, Jr.cells, clF_map]
  by_cases c1 : j.s.d0.cap < 100
  · rw [no fun g => by have := g.1; omega]
    by_cases c2 : j.s.d1.cap < 100
    · simp -implicitDefEqProofs only [go_sem, seval, sk, eq_true c1, eq_true c2]
    · simp -implicitDefEqProofs only [go_sem, seval, sk, eq_true c1, eq_false c2]
  · by_cases c2 : j.s.d1.cap < 100
    · rw [no fun g => by have := g.2.1; omega]
      simp -implicitDefEqProofs only [go_sem, seval, sk, eq_false c1, eq_true c2]
    · simp -implicitDefEqProofs only [go_sem, seval, sk, eq_false c1, eq_false c2]
      refine call_d hW ?_ (by simp -implicitDefEqProofs only [go_sem, seval, sk, Dev.cells])
      simp -implicitDefEqProofs only [go_sem, seval, sk, ew, ek]
      by_cases c3 : j.l.dev.cap - (j.l.dev.all.length : Int) < 21 * k
      · rw [no fun g => by have := g.2.2.1; omega]
        simp -implicitDefEqProofs only [go_sem, seval, sk, eq_true c3]
      · simp -implicitDefEqProofs only [go_sem, seval, sk, eq_false c3]
        refine loop_l (α := Nat) (rmF j k) (fun i => 8 - i) (fun i => i ≤ 8 ∧ ∀ q (hq : q < j.c.length), q < i → 1000000 * k - 1000000000 ≤ j.c[q] ∧ j.c[q] ≤ 1000000000 - 1000000 * k) 0 (by simp -implicitDefEqProofs only [go_sem, seval, rmF]) ⟨Nat.zero_le _, fun q _ hq => by omega⟩ ?_
        intro i hi R hR
        obtain ⟨hi, hq⟩ := hi
        simp -implicitDefEqProofs only [go_sem, seval, sk, rmF]
        refine wcond_mk (fun hh => ?_) (fun hh => ?_)
        · have hi' : i < 8 := by have := of_decide_eq_true hh; omega
          have hil : i < j.c.length := by omega
          have hil2 : i < (clF false j.c).length := by rw [clF_length]; exact hil
          have e2 : ((i : Int) < 8) = True := eq_true (by omega)
          have e4 : IntKind.i64.wrap ((i : Int) + 1) = ((i + 1 : Nat) : Int) := by rw [wrap_i64_id (by omega) (by omega)]; omega
          have hget : (clF false j.c)[i]? = some (.t (.i .i64 j.c[i]) false) := clF_get _ hil
          simp -implicitDefEqProofs only [go_sem, seval, sk, e2, Nat.mul_one, em, e5, e6, get15, hget]
          by_cases d1 : 1000000000 - 1000000 * k < j.c[i]
          · rw [no fun g => by have := g.2.2.2.1 _ (List.getElem_mem hil); omega]
            simp -implicitDefEqProofs only [go_sem, seval, sk, eq_true d1]
          · by_cases d2 : j.c[i] < 1000000 * k - 1000000000
            · rw [no fun g => by have := g.2.2.2.1 _ (List.getElem_mem hil); omega]
              simp -implicitDefEqProofs only [go_sem, seval, sk, eq_false d1, e2, em, e5, e6, get15, hget, Nat.mul_one, eq_true d2]
            · simp -implicitDefEqProofs only [go_sem, seval, sk, eq_false d1, e2, em, e5, e6, get15, hget, Nat.mul_one, eq_false d2, e4]
              refine hR (i + 1) _ (by simp -implicitDefEqProofs only [go_sem, seval, rmF]) ⟨by omega, fun q h1 h2 => ?_⟩ (by omega)
              rcases Nat.lt_or_ge q i with h3 | h3
              · exact hq q h1 h3
              · obtain rfl : q = i := by omega
                omega
        · have hi' : i = 8 := by have := of_decide_eq_false hh; omega
          subst hi'
          have hcs : ∀ x ∈ j.c, 1000000 * k - 1000000000 ≤ x ∧ x ≤ 1000000000 - 1000000 * k := fun x hx => by
            obtain ⟨q, h1, rfl⟩ := List.mem_iff_getElem.1 hx
            exact hq q h1 (by omega)
          simp -implicitDefEqProofs only [go_sem, seval, sk]
          by_cases c4 : j.l.next < 1000000
          · by_cases c5 : j.s.next < 1000000
            · have yes : decide (j.room k) = true := decide_eq_true ⟨by omega, by omega, by omega, hcs, c4, c5⟩
              rw [yes]
              simp -implicitDefEqProofs only [go_sem, seval, sk, eq_true c4, eq_true c5]
            · rw [no fun g => c5 g.2.2.2.2.2]
              simp -implicitDefEqProofs only [go_sem, seval, sk, eq_true c4, eq_false c5]
          · rw [no fun g => c4 g.2.2.2.2.1]
            simp -implicitDefEqProofs only [go_sem, seval, sk, eq_false c4]
theorem given_fine {j : Jr} (hj : j.given) (hg : greatJ j = false) : j.fine := greatJ_fine hg hj.s hj.f hj.n hj.len hj.c
theorem s_law06_fit (j : Jr) (hj : j.given) (k : Int) (k0 : 0 ≤ k) (k1 : k ≤ 1000) : Spec Tryz.prog 22 [.agg j.cells, .i .i64 k] [] (.t (.b (!greatJ j && (decide j.ok && decide (j.room k)))) true) := by
  refine spec_k (hold mixed) b_law06_fit [(.b (!greatJ j && (decide j.ok && decide (j.room k))), true)] ?_
  have hG := s_ref06_Great j
  have h8 := hj.len
  have htk := clF_take (l := false) h8
  simp -implicitDefEqProofs only [go_sem, seval, sk, Jr.cells, clF_map]
  refine ⟨by omega, ?_⟩
  refine call_k hG ?_ (by simp -implicitDefEqProofs only [go_sem, seval, sk, Jr.cells, htk])
  cases hg : greatJ j with
  | true => simp -implicitDefEqProofs only [go_sem, seval, sk]
  | false =>
    have hf := given_fine hj hg
    have hC := s_ref06_Check j hf
    simp -implicitDefEqProofs only [go_sem, seval, sk, h8]
    refine call_k hC ?_ (by simp -implicitDefEqProofs only [go_sem, seval, sk, Jr.cells, htk])
    by_cases h : j.ok
    · rw [chkJ_ok h, decide_eq_true h]
      have hR := s_ref06_Room j h k k0 k1
      simp -implicitDefEqProofs only [go_sem, seval, sk, h8]
      refine call_k hR ?_ (by simp -implicitDefEqProofs only [go_sem, seval, sk, Jr.cells, htk])
      simp -implicitDefEqProofs only [go_sem, seval, sk]
    · rw [chkJ_bad h, decide_eq_false h]
      simp -implicitDefEqProofs only [go_sem, seval, sk]
theorem halved_fine {j : Jr} (hj : j.fine) (st o : Int) : (halved j st o).1.fine := by
  obtain ⟨hs, hl, h8, hc⟩ := hj
  by_cases c : 0 < st
  · by_cases c1 : (saveS j.s (ptB j)).2.2 = 0
    · rw [halved_half c c1]
      obtain ⟨a, b⟩ := halfS_small' j.s (ptB j) st o
      rcases halfS_next j.s (ptB j) st o with g | g
      · exact ⟨a, b, by rw [g]; exact hs.2.2⟩
      · exact ⟨a, b, by rw [g]; decide⟩
    · rw [halved_save c c1]
      exact ⟨zeroD_small, zeroD_small, by show (-9223372036854775808 : Int) ≤ 0; decide, by show (0 : Int) ≤ 9223372036854775807; decide⟩
  · rw [halved_none c]
    exact ⟨crash_small _ _, crash_small _ _, hs.2.2⟩
theorem crashJ_fine {j : Jr} (hj : j.fine) (st k : Int) : (crashJ j st k).1.s.fine ∧ (crashJ j st k).1.l.dev.small ∧ (crashJ j st k).1.c.length = 8 := by
  have hz : zeroJ.s.fine ∧ zeroJ.l.dev.small ∧ zeroJ.c.length = 8 := ⟨⟨zeroD_small, zeroD_small, by decide⟩, zeroD_small, rfl⟩
  unfold crashJ
  by_cases c0 : j.ok
  · rw [if_pos c0]
    by_cases c1 : 0 ≤ st ∧ st ≤ 5
    · rw [if_pos c1]
      by_cases c2 : (halved j (max 0 (min (st - 1) 3)) (if st = 3 then k else 0)).2 = 0
      · rw [if_pos c2]
        by_cases c3 : ((crLog j st).dev.crash (if st = 3 then 0 else k)).2 = 0
        · rw [if_pos c3]
          exact ⟨halved_fine hj _ _, crash_small _ _, rfl⟩
        · rw [if_neg c3]; exact hz
      · rw [if_neg c2]; exact hz
    · rw [if_neg c1]; exact hz
  · rw [if_neg c0]; exact hz
theorem recoverJ_len {j : Jr} : (recoverJ j).1.c.length = 8 := by
  unfold recoverJ
  split
  · split
    · split
      · rename_i h
        exact (facts h).j8
      · rfl
    · rfl
  · rfl
def recoveredB (d : Jr) (e : Int) (cs : List Int) (k : Int) : Bool := decide (e = 0) && (decide ((recoverJ d).2.2 = 0) && (decide ((recoverJ d).1.c = cs) && (decide ((recoverJ d).2.1 = k) && decide ((recoverJ d).1.l.next = k))))
theorem s_law06_recovered (d : Jr) (hs : d.s.fine) (hd : d.l.dev.small) (h8 : d.c.length = 8) (e : Int) (cs : List Int) (c8 : cs.length = 8) (k : Int) :
    Spec Tryz.prog 67 [.agg d.cells, .i .i64 e, .agg (clT cs), .i .i64 k] [] (.t (.b (recoveredB d e cs k)) true) := by
  refine spec_k (hold mixed) b_law06_recovered [(.b (recoveredB d e cs k), true)] ?_
  have hR := s_journal_Recover d hs hd h8
  have hl := recoverJ_len (j := d)
  obtain ⟨⟨r, n, f⟩, hr⟩ : ∃ p, recoverJ d = p := ⟨_, rfl⟩
  have hB : recoveredB d e cs k = (decide (e = 0) && (decide (f = 0) && (decide (r.c = cs) && (decide (n = k) && decide (r.l.next = k))))) := by unfold recoveredB; rw [hr]
  rw [hr] at hR hl
  simp only at hl
  rw [hB]
  have htk := clF_take (l := false) h8
  have htr := clF_take (l := true) hl
  have htc := clF_take (l := false) c8
  simp -implicitDefEqProofs only [go_sem, seval, sk, Jr.cells, clF_map]
  refine ⟨by omega, ?_⟩
  refine call_k hR ?_ (by simp -implicitDefEqProofs only [go_sem, seval, sk, Jr.cells, htk]) (by simp -implicitDefEqProofs only [go_sem, seval, sk, opJ3])
  simp -implicitDefEqProofs only [go_sem, seval, sk, opJ3, Jr.cells, clF_map, hl]
  refine ⟨clF_one _ _, ?_⟩
  by_cases c1 : e = 0
  · by_cases c2 : f = 0
    · subst c1 c2
      simp -implicitDefEqProofs only [go_sem, seval, sk, hl, htr, htc, c8, plains_clF true hl, plains_clF false c8, eqCells_clT (show r.c.length = cs.length by omega)]
      refine ⟨clT_flat _, ?_⟩
      by_cases c3 : r.c = cs
      · by_cases c4 : n = k
        · subst c4
          by_cases c5 : r.l.next = n
          · simp -implicitDefEqProofs only [go_sem, seval, sk, decide_eq_true c3, c5, decide_eq_true (show n = n from rfl), decide_eq_true (show (0 : Int) = 0 from rfl)]
          · have c5' : (r.l.next == n) = false := by simp [c5]
            simp -implicitDefEqProofs only [go_sem, seval, sk, decide_eq_true c3, c5', decide_eq_false c5]
        · have c4' : (n == k) = false := by simp [c4]
          simp -implicitDefEqProofs only [go_sem, seval, sk, decide_eq_true c3, c4', decide_eq_false c4]
      · simp -implicitDefEqProofs only [go_sem, seval, sk, decide_eq_false c3]
    · have c2' : (f == 0) = false := by simp [c2]
      subst c1
      simp -implicitDefEqProofs only [go_sem, seval, sk, c2', decide_eq_false c2]
  · have c1' : (e == 0) = false := by simp [c1]
    simp -implicitDefEqProofs only [go_sem, seval, sk, c1', decide_eq_false c1]
def safelyJ (j : Jr) : Int × Int := if (crashJ j 0 0).2 = 0 then ((recoverJ (crashJ j 0 0).1).2.1, (recoverJ (crashJ j 0 0).1).2.2) else (0, (crashJ j 0 0).2)
theorem s_law06_safely (j : Jr) (hj : j.fine) : Spec Tryz.prog 25 [.agg j.cells] [] (.tup [.t (.i .i64 (safelyJ j).1) true, .t (.i .i64 (safelyJ j).2) true]) := by
  refine spec_k (hold mixed) b_law06_safely [(.i .i64 (safelyJ j).1, true), (.i .i64 (safelyJ j).2, true)] ?_
  have hC := s_journal_Crash j hj 0 0 (by decide) (by decide) (by decide) (by decide)
  obtain ⟨f1, f2, f3⟩ := crashJ_fine hj 0 0
  have hR := s_journal_Recover (crashJ j 0 0).1 f1 f2 f3
  have hl := recoverJ_len (j := (crashJ j 0 0).1)
  have h8 := hj.2.2.1
  have htk := clF_take (l := false) h8
  have e : safelyJ j = if (crashJ j 0 0).2 = 0 then ((recoverJ (crashJ j 0 0).1).2.1, (recoverJ (crashJ j 0 0).1).2.2) else (0, (crashJ j 0 0).2) := rfl
  rw [e]
  generalize crashJ j 0 0 = p at *
  obtain ⟨d, e1⟩ := p
  simp only at hR hl f3 ⊢
  generalize recoverJ d = q at *
  obtain ⟨r, n, f⟩ := q
  simp only at hl
  have htd := clF_take (l := true) f3
  simp -implicitDefEqProofs only [go_sem, seval, sk, Jr.cells, clF_map]
  refine ⟨by omega, ?_⟩
  refine call_k hC ?_ (by simp -implicitDefEqProofs only [go_sem, seval, sk, Jr.cells, htk]) (by simp -implicitDefEqProofs only [go_sem, seval, sk, opJ])
  simp -implicitDefEqProofs only [go_sem, seval, sk, opJ, Jr.cells, clF_map, f3]
  refine ⟨clF_one _ _, ?_⟩
  by_cases he : e1 = 0
  · subst he
    simp -implicitDefEqProofs only [go_sem, seval, sk, f3, htd]
    refine call_k hR ?_ (by simp -implicitDefEqProofs only [go_sem, seval, sk, Jr.cells]) (by simp -implicitDefEqProofs only [go_sem, seval, sk, opJ3])
    simp -implicitDefEqProofs only [go_sem, seval, sk, opJ3, Jr.cells, clF_map, hl]
    exact clF_one _ _
  · have he' : (e1 != 0) = true := by simp [he]
    simp -implicitDefEqProofs only [go_sem, seval, sk, he', if_neg he]
def J0 : Jr := (newJ 1000).1
def J1 : Jr := (doJ J0 (0, 5)).1
def J2 : Jr := (doJ J1 (1, -2)).1
def J3 : Jr := (saveJ J2).1
def J4 : Jr := (doJ J3 (0, 7)).1
instance decSmallJ (d : Dev) : Decidable d.small := by unfold Dev.small; infer_instance
instance decFineS (s : Slt) : Decidable s.fine := by unfold Slt.fine; infer_instance
instance decFineW (s : WLog) : Decidable s.fine := by unfold WLog.fine; infer_instance
instance decFineJ (j : Jr) : Decidable j.fine := by unfold Jr.fine; infer_instance
theorem fineJ0 : J0.fine := by decide +kernel
theorem fineJ1 : J1.fine := by decide +kernel
theorem fineJ2 : J2.fine := by decide +kernel
theorem fineJ3 : J3.fine := by decide +kernel
theorem fineJ4 : J4.fine := by decide +kernel
theorem s_law06_given : Spec Tryz.prog 66 [] [] (.t (.agg J4.cells) true) := by
  refine spec_k (hold mixed) b_law06_given [(.agg J4.cells, true)] ?_
  have g0 := s_journal_New 1000
  have g1 := s_journal_Do J0 fineJ0 (0, 5) (by decide) (by decide)
  have g2 := s_journal_Do J1 fineJ1 (1, -2) (by decide) (by decide)
  have g3 := s_journal_Save J2 fineJ2
  have g4 := s_journal_Do J3 fineJ3 (0, 7) (by decide) (by decide)
  rw [show newJ 1000 = (J0, (newJ 1000).2) from rfl] at g0
  rw [show doJ J0 (0, 5) = (J1, (doJ J0 (0, 5)).2.1, (doJ J0 (0, 5)).2.2) from rfl] at g1
  rw [show doJ J1 (1, -2) = (J2, (doJ J1 (1, -2)).2.1, (doJ J1 (1, -2)).2.2) from rfl] at g2
  rw [show saveJ J2 = (J3, (saveJ J2).2) from rfl] at g3
  rw [show doJ J3 (0, 7) = (J4, (doJ J3 (0, 7)).2.1, (doJ J3 (0, 7)).2.2) from rfl] at g4
  have h0 := fineJ0.2.2.1
  have h1 := fineJ1.2.2.1
  have h2 := fineJ2.2.2.1
  have h3 := fineJ3.2.2.1
  have h4 := fineJ4.2.2.1
  generalize (newJ 1000).2 = e0 at *
  generalize (doJ J0 (0, 5)).2.1 = n1 at *
  generalize (doJ J0 (0, 5)).2.2 = e1 at *
  generalize (doJ J1 (1, -2)).2.1 = n2 at *
  generalize (doJ J1 (1, -2)).2.2 = e2 at *
  generalize (saveJ J2).2 = e3 at *
  generalize (doJ J3 (0, 7)).2.1 = n4 at *
  generalize (doJ J3 (0, 7)).2.2 = e4 at *
  generalize J0 = j0 at *
  generalize J1 = j1 at *
  generalize J2 = j2 at *
  generalize J3 = j3 at *
  generalize J4 = j4 at *
  have t0 := clF_take (l := true) h0
  have t1 := clF_take (l := true) h1
  have t2 := clF_take (l := true) h2
  have t3 := clF_take (l := true) h3
  have u0 := clF_drop (l := true) h0
  have u1 := clF_drop (l := true) h1
  have u2 := clF_drop (l := true) h2
  have u3 := clF_drop (l := true) h3
  have u4 := clF_drop (l := true) h4
  simp -implicitDefEqProofs only [go_sem, seval, sk]
  refine call_k g0 ?_ (by simp -implicitDefEqProofs only [go_sem, seval, sk]) (by simp -implicitDefEqProofs only [go_sem, seval, sk, opJ])
  simp -implicitDefEqProofs only [go_sem, seval, sk, opJ, Jr.cells, clF_map, h0]
  refine ⟨clF_one _ _, ?_⟩
  simp -implicitDefEqProofs only [go_sem, seval, sk, h0, t0]
  refine call_k g1 ?_ (by simp -implicitDefEqProofs only [go_sem, seval, sk, Jr.cells]) (by simp -implicitDefEqProofs only [go_sem, seval, sk, opJ3])
  simp -implicitDefEqProofs only [go_sem, seval, sk, opJ3, Jr.cells, clF_map, h0, h1, u0, List.append_nil]
  refine ⟨clF_one _ _, ?_⟩
  simp -implicitDefEqProofs only [go_sem, seval, sk, h1, t1]
  refine call_k g2 ?_ (by simp -implicitDefEqProofs only [go_sem, seval, sk, Jr.cells]) (by simp -implicitDefEqProofs only [go_sem, seval, sk, opJ3])
  simp -implicitDefEqProofs only [go_sem, seval, sk, opJ3, Jr.cells, clF_map, h1, h2, u1, List.append_nil]
  refine ⟨clF_one _ _, ?_⟩
  simp -implicitDefEqProofs only [go_sem, seval, sk, h2, t2]
  refine call_k g3 ?_ (by simp -implicitDefEqProofs only [go_sem, seval, sk, Jr.cells]) (by simp -implicitDefEqProofs only [go_sem, seval, sk, opJ])
  simp -implicitDefEqProofs only [go_sem, seval, sk, opJ, Jr.cells, clF_map, h2, h3, u2, List.append_nil]
  refine ⟨clF_one _ _, ?_⟩
  simp -implicitDefEqProofs only [go_sem, seval, sk, h3, t3]
  refine call_k g4 ?_ (by simp -implicitDefEqProofs only [go_sem, seval, sk, Jr.cells]) (by simp -implicitDefEqProofs only [go_sem, seval, sk, opJ3])
  simp -implicitDefEqProofs only [go_sem, seval, sk, opJ3, Jr.cells, clF_map, h3, h4, u3, List.append_nil]
  refine ⟨clF_one _ _, ?_⟩
  have t4 := clF_take (l := true) h4
  simp -implicitDefEqProofs only [go_sem, seval, sk, h4, t4, u4, List.append_nil]
  exact clF_one _ _
def aliveA : Jr × Int := crashJ J4 0 20
def aliveB : Jr × Int := crashJ J4 0 21
theorem alive_facts : J4.c = [12, -2, 0, 0, 0, 0, 0, 0] ∧ recoveredB aliveA.1 aliveA.2 [5, -2, 0, 0, 0, 0, 0, 0] 2 = true ∧ recoveredB aliveB.1 aliveB.2 [12, -2, 0, 0, 0, 0, 0, 0] 3 = true := by decide +kernel
theorem s_law06_alive : Spec Tryz.prog 23 [] [] (.t (.b true) true) := by
  refine spec_k (hold mixed) b_law06_alive [(.b true, true)] ?_
  have hG := s_law06_given
  obtain ⟨f1, f2, f3⟩ := alive_facts
  have hA := s_journal_Crash J4 fineJ4 0 20 (by decide) (by decide) (by decide) (by decide)
  have hB := s_journal_Crash J4 fineJ4 0 21 (by decide) (by decide) (by decide) (by decide)
  obtain ⟨a1, a2, a3⟩ := crashJ_fine fineJ4 0 20
  obtain ⟨b1, b2, b3⟩ := crashJ_fine fineJ4 0 21
  have hRA := s_law06_recovered aliveA.1 a1 a2 a3 aliveA.2 [5, -2, 0, 0, 0, 0, 0, 0] rfl 2
  have hRB := s_law06_recovered aliveB.1 b1 b2 b3 aliveB.2 [12, -2, 0, 0, 0, 0, 0, 0] rfl 3
  rw [f2] at hRA
  rw [f3] at hRB
  have h4 := fineJ4.2.2.1
  change Spec _ _ _ _ (resV ((opJ aliveA).map AV.ofT)) at hA
  change Spec _ _ _ _ (resV ((opJ aliveB).map AV.ofT)) at hB
  change aliveA.1.c.length = 8 at a3
  change aliveB.1.c.length = 8 at b3
  generalize aliveA = pa at *
  generalize aliveB = pb at *
  generalize J4 = j4 at *
  obtain ⟨da, ea⟩ := pa
  obtain ⟨db, eb⟩ := pb
  simp only at a3 b3 hRA hRB
  have ta := clF_take (l := true) a3
  have tb := clF_take (l := true) b3
  have ua := clF_drop (l := true) a3
  have t4 := clT_take h4
  simp -implicitDefEqProofs only [go_sem, seval, sk]
  refine call_k hG ?_
  simp -implicitDefEqProofs only [go_sem, seval, sk, Jr.cells]
  refine call_k hA ?_ (by simp -implicitDefEqProofs only [go_sem, seval, sk, Jr.cells]) (by simp -implicitDefEqProofs only [go_sem, seval, sk, opJ])
  simp -implicitDefEqProofs only [go_sem, seval, sk, opJ, Jr.cells, clF_map, a3]
  refine ⟨clF_one _ _, ?_⟩
  refine call_k hG ?_
  simp -implicitDefEqProofs only [go_sem, seval, sk, Jr.cells]
  refine call_k hB ?_ (by simp -implicitDefEqProofs only [go_sem, seval, sk, Jr.cells]) (by simp -implicitDefEqProofs only [go_sem, seval, sk, opJ])
  simp -implicitDefEqProofs only [go_sem, seval, sk, opJ, Jr.cells, clF_map, b3, a3]
  refine ⟨clF_one _ _, ?_⟩
  refine call_k hG ?_
  have he : eqCells (clT j4.c) [.i .i64 12, .i .i64 (-2), .i .i64 0, .i .i64 0, .i .i64 0, .i .i64 0, .i .i64 0, .i .i64 0] = some true := by rw [f1]; rfl
  have tA : clT [5, -2, 0, 0, 0, 0, 0, 0] = [.i .i64 5, .i .i64 (-2), .i .i64 0, .i .i64 0, .i .i64 0, .i .i64 0, .i .i64 0, .i .i64 0] := rfl
  have tB : clT [12, -2, 0, 0, 0, 0, 0, 0] = [.i .i64 12, .i .i64 (-2), .i .i64 0, .i .i64 0, .i .i64 0, .i .i64 0, .i .i64 0, .i .i64 0] := rfl
  simp -implicitDefEqProofs only [go_sem, seval, sk, Jr.cells]
  refine ⟨by omega, ?_⟩
  simp -implicitDefEqProofs only [go_sem, seval, sk, t4, he, h4]
  refine ⟨clT_flat _, ?_⟩
  simp -implicitDefEqProofs only [go_sem, seval, sk, a3, ta, ua, List.append_nil]
  refine call_k hRA ?_ (by simp -implicitDefEqProofs only [go_sem, seval, sk, Jr.cells, tA])
  simp -implicitDefEqProofs only [go_sem, seval, sk, b3, tb]
  refine call_k hRB ?_ (by simp -implicitDefEqProofs only [go_sem, seval, sk, Jr.cells, tB])
  simp -implicitDefEqProofs only [go_sem, seval, sk]
set_option maxHeartbeats 1000000
theorem crash0_ne (d : Dev) : (d.crash 0).2 ≠ 2 := by
  unfold Dev.crash orE
  split
  · rw [if_pos ⟨Int.le_refl _, by omega⟩]
    simp
  · simp only
    unfold Dev.upE
    split
    · decide
    · split <;> decide
theorem halved_zero {j : Jr} (h : j.ok) (ha : j.s.ask (ptB j) = 0) {steps : Int} (s0 : 0 ≤ steps) (s1 : steps ≤ 3) : (halved j steps 0).2 = 0 := by
  have hsv : (saveS j.s (ptB j)).2.2 = 0 := by rw [saveS, if_pos ha]
  rcases halved_err h ha s0 s1 (o := 0) with g | g
  · exact g
  · exfalso
    by_cases c : 0 < steps
    · rw [halved_half c hsv] at g
      revert g
      unfold halfS
      rw [if_pos ha, if_pos ⟨s0, s1⟩]
      split
      · split
        · simp
        · exact crash0_ne _
      · split
        · simp
        · exact crash0_ne _
    · rw [halved_none c] at g
      cases g
theorem crashJ_zero {j : Jr} (h : j.ok) (ha : j.s.ask (ptB j) = 0) {stage : Int} (s0 : 0 ≤ stage) (s1 : stage ≤ 5) : (crashJ j stage 0).2 = 0 := by
  have hl := crLog_ok h stage
  have e1 : (if stage = 3 then (0 : Int) else 0) = 0 := by split <;> rfl
  rw [crashJ, if_pos h, if_pos ⟨s0, s1⟩, e1, if_pos (halved_zero h ha (by omega) (by omega))]
  rcases crash_err hl.1 hl.2.1 0 with g | g
  · rw [if_pos g]
  · exact absurd g (crash0_ne _)
structure SavesF (j : Jr) (stage : Int) : Prop where
  back : ∃ r : Jr, recoverJ j = (r, j.l.next, 0) ∧ r.c = j.c ∧ r.l = j.l.all ∧ r.s = j.s
  sync : syncJ j = (⟨j.s, j.l.all, j.c⟩, 0)
  save : ∃ s2 : Slt, saveJ j = (⟨s2, j.l.none, j.c⟩, 0) ∧ s2.ok ∧ (Jr.mk s2 j.l.none j.c).ok
  crash : ∃ d : Jr, crashJ j stage 0 = (d, 0) ∧ ∃ a : Jr, recoverJ d = (a, j.l.next, 0) ∧ a.c = j.c
def goC (c : List Int) (l : List (Int × Int)) : List Int := l.foldl stepC c
def inB (c : List Int) (b : Int) : Prop := ∀ x ∈ c, -b ≤ x ∧ x ≤ b
theorem inB_st {c : List Int} {b : Int} (h : inB c b) (hb : b ≤ 1000000000) : stOK c = true := List.all_eq_true.2 fun x hx => by
  have := h x hx
  simp only [Bool.and_eq_true, decide_eq_true_eq]
  omega
theorem inB_step {c : List Int} {b : Int} (h : inB c b) (hb : 0 ≤ b) {m : Int × Int} (hm : mOK m = true) : inB (stepC c m) (b + 1000000) := fun x hx => by
  obtain ⟨m0, m1, m2, m3⟩ := (mOK_iff m).1 hm
  unfold stepC at hx
  rcases List.mem_or_eq_of_mem_set hx with hx | rfl
  · have := h x hx; omega
  · cases hg : c[m.1.toNat]? with
    | none => simp only [Option.getD_none]; omega
    | some y =>
      have := h y (List.mem_of_getElem? hg)
      simp only [Option.getD_some]
      omega
structure After (j0 j : Jr) (l : List (Int × Int)) : Prop where
  ok : j.ok
  next : j.l.next = j0.l.next + l.length
  cap : j.l.dev.cap = j0.l.dev.cap
  len : (j.l.dev.all.length : Int) = j0.l.dev.all.length + 21 * l.length
  c : j.c = goC j0.c l
theorem room_in {j : Jr} {k : Int} (h : j.room k) : inB j.c (1000000000 - 1000000 * k) := fun x hx => by
  have := h.2.2.2.1 x hx
  omega
theorem at_do {j : Jr} (h : j.ok) {l2 : WLog} {c : List Int} {r : Rec} (hf : l2.first = j.l.first) (hr : l2.recs = j.l.recs ++ [r]) {n : Int} (hn : n ≤ j.l.next) : (Jr.mk j.s l2 c).at n = j.at n := by
  have f := facts h
  have hx := h.2.1.2.2.2.1
  have e : (Jr.mk j.s l2 c).rest = j.rest ++ [r] := by
    show l2.recs.drop ((baseV j.s).1 - l2.first).toNat = _
    have := f.f0
    have := f.f1
    rw [hr, hf, List.drop_append_of_le_length (by omega)]
    rfl
  unfold Jr.at
  show (redo (baseV j.s).2.1 ((Jr.mk j.s l2 c).rest.take (n - (baseV j.s).1).toNat)).1 = _
  rw [e, List.take_append_of_le_length (by have := f.len; omega)]
structure Live (j0 j : Jr) (st : List (List Int)) (safe : Int) (used : Nat) : Prop where
  ok : j.ok
  ne : 0 < st.length
  cnt : st.length ≤ used + 1
  next : j.l.next = j0.l.next + ((st.length : Int) - 1)
  cap : j.l.dev.cap = j0.l.dev.cap
  len : (j.l.dev.all.length : Int) ≤ j0.l.dev.all.length + 21 * ((st.length : Int) - 1)
  cells : inB j.c (1000000000 - 1000000 * 21 + 1000000 * ((st.length : Int) - 1))
  st8 : ∀ c ∈ st, c.length = 8
  at' : ∀ (i : Nat) (h : i < st.length), (baseV j.s).1 ≤ j0.l.next + i → st[i] = j.at (j0.l.next + i)
  sure : 0 ≤ safe → j0.l.next + safe ≤ j.sure
  low : -1 ≤ safe
  high : safe ≤ (st.length : Int) - 1
  snext : j.s.next ≤ j0.s.next + used
  cap0 : 100 ≤ j.s.d0.cap
  cap1 : 100 ≤ j.s.d1.cap
theorem live_last {j0 j : Jr} {st : List (List Int)} {safe : Int} {used : Nat} (h : Live j0 j st safe used) : st[st.length - 1]? = some j.c := by
  have hn := h.ne
  have := h.at' (st.length - 1) (by omega) (by have := (facts h.ok).f1; have := h.next; omega)
  rw [List.getElem?_eq_getElem (by omega), this, show j0.l.next + ((st.length - 1 : Nat) : Int) = j.l.next by have := h.next; omega, at_next h.ok]
theorem live_do {j0 j : Jr} (h0 : j0.room 21) {st : List (List Int)} {safe : Int} {used : Nat} (h : Live j0 j st safe used) (hu : used < 20) {m : Int × Int} (hm : mOK m = true) :
    ∃ j2 : Jr, doJ j m = (j2, j.l.next, 0) ∧ applyV j.c [m] = (j2.c, 0) ∧ Live j0 j2 (st ++ [j2.c]) safe (used + 1) := by
  obtain ⟨r0, r1, r2, r3, r4, r5⟩ := h0
  have hcnt := h.cnt
  have hne := h.ne
  have hin := h.cells
  have f := facts h.ok
  have hst := inB_step hin (by omega) hm
  have g3 := inB_st hst (by omega)
  have hn := h.next
  have hc := h.cap
  have hle := h.len
  obtain ⟨l2, q1, q2, q3, q4, q5, q6, q7, q8, q9⟩ := do_go h.ok hm g3 (by omega) (by rw [hc]; omega)
  have hb : (bytesL ⟨j.l.next, wrB m⟩).length = 21 := by rw [bytesL_length]; simp [wrB_len]
  refine ⟨_, q1, applyV_one f.st hm g3, q2, by simp, by simp; omega, ?_, ?_, ?_, ?_, ?_, ?_, ?_, h.low, ?_, ?_, h.cap0, h.cap1⟩
  · show l2.next = _
    rw [q4, hn, List.length_append]
    simp
    omega
  · show l2.dev.cap = _
    rw [q7, hc]
  · show (l2.dev.all.length : Int) ≤ _
    rw [q8, List.length_append, List.length_append, hb]
    simp
    omega
  · show inB (stepC j.c m) _
    rw [List.length_append]
    have e : 1000000000 - 1000000 * 21 + 1000000 * (((st.length + [stepC j.c m].length : Nat) : Int) - 1) = 1000000000 - 1000000 * 21 + 1000000 * ((st.length : Int) - 1) + 1000000 := by simp; omega
    rw [e]
    exact hst
  · intro c hcm
    rcases List.mem_append.1 hcm with g | g
    · exact h.st8 c g
    · simp at g
      rw [g, stepC_len, f.j8]
  · intro i hi hb2
    rw [List.length_append] at hi
    simp at hi
    by_cases c1 : i < st.length
    · rw [List.getElem_append_left c1, h.at' i c1 hb2, at_do h.ok q3 q5 (by omega)]
    · have hi2 : i = st.length := by omega
      subst hi2
      rw [List.getElem_append_right (Nat.le_refl _)]
      simp only [Nat.sub_self, List.getElem_cons_zero]
      have e := at_next q2
      rw [show (Jr.mk j.s l2 (stepC j.c m)).l.next = j0.l.next + (st.length : Int) by show l2.next = _; rw [q4, hn]; omega] at e
      exact e.symm
  · intro hs
    have := h.sure hs
    show _ ≤ max (baseV j.s).1 (l2.first + (scanL l2.dev.syn).length)
    rw [q3, q6]
    exact this
  · have := h.high
    rw [List.length_append]
    simp
    omega
  · show j.s.next ≤ _
    have := h.snext
    omega
theorem live_sync {j0 j : Jr} {st : List (List Int)} {safe : Int} {used : Nat} (h : Live j0 j st safe used) :
    ∃ j2 : Jr, syncJ j = (j2, 0) ∧ j2.c = j.c ∧ Live j0 j2 st ((st.length : Int) - 1) (used + 1) := by
  obtain ⟨q1, q2⟩ := sync_go h.ok
  obtain ⟨a1, a2⟩ := all_ok h.ok.2.1
  have hne := h.ne
  have hall := all_eq h.ok.2.1
  have hx := h.ok.2.1.2.2.2.1
  refine ⟨_, q1, rfl, q2, h.ne, by have := h.cnt; omega, h.next, h.cap, ?_, h.cells, h.st8, ?_, ?_, by omega, Int.le_refl _, ?_, h.cap0, h.cap1⟩
  · show ((catR j.l.recs ++ []).length : Int) ≤ _
    rw [List.append_nil, ← hall]
    exact h.len
  · intro i hi hb
    rw [h.at' i hi hb]
    show _ = (redo (baseV j.s).2.1 (((j.l.all.recs.drop ((baseV j.s).1 - j.l.first).toNat)).take _)).1
    rw [a2]
    rfl
  · intro _
    show _ ≤ max (baseV j.s).1 (j.l.first + (scanL (catR j.l.recs)).length)
    rw [scan_whole (row_ok h.ok.2.1).follows]
    have := h.next
    omega
  · show j.s.next ≤ _
    have := h.snext
    omega
theorem live_save {j0 j : Jr} (h0 : j0.room 21) {st : List (List Int)} {safe : Int} {used : Nat} (h : Live j0 j st safe used) (hu : used < 20) :
    ∃ j2 : Jr, saveJ j = (j2, 0) ∧ j2.c = j.c ∧ Live j0 j2 st ((st.length : Int) - 1) (used + 1) := by
  obtain ⟨r0, r1, r2, r3, r4, r5⟩ := h0
  have hne := h.ne
  have hcnt := h.cnt
  have hn := h.next
  have hsn := h.snext
  have hc0 := h.cap0
  have hc1 := h.cap1
  obtain ⟨s2, p1, p2, p3, p4, p5, p6, p7, p8, p9⟩ := save_go h.ok (by omega) (by omega) (by omega) (by omega)
  refine ⟨_, p1, rfl, p2, h.ne, by omega, hn, h.cap, ?_, h.cells, h.st8, ?_, ?_, by omega, Int.le_refl _, ?_, ?_, ?_⟩
  · show ((([] : List (BitVec 8)) ++ []).length : Int) ≤ _
    simp
    omega
  · intro i hi hb
    rw [show (baseV (Jr.mk s2 j.l.none j.c).s).1 = j.l.next by show (baseV s2).1 = _; rw [p3]] at hb
    have hi2 : i = st.length - 1 := by omega
    subst hi2
    have hl := live_last h
    rw [List.getElem?_eq_getElem (by omega)] at hl
    have e := at_next p2
    rw [show (Jr.mk s2 j.l.none j.c).l.next = j0.l.next + ((st.length - 1 : Nat) : Int) by show j.l.next = _; omega] at e
    rw [e]
    exact Option.some.inj hl
  · intro _
    show _ ≤ max (baseV s2).1 _
    rw [p3]
    simp only
    omega
  · show s2.next ≤ _
    rw [p4]
    omega
  · show 100 ≤ s2.d0.cap
    rw [p5]; exact hc0
  · show 100 ≤ s2.d1.cap
    rw [p6]; exact hc1
structure CrashF (j0 j : Jr) (st : List (List Int)) (safe stage keep : Int) (r : Jr) (n : Int) : Prop where
  rec' : recoverJ (crashJ j stage keep).1 = (r, n, 0)
  ok : r.ok
  next : r.l.next = n
  high : n ≤ j0.l.next + ((st.length : Int) - 1)
  low : n < j0.l.next → safe < 0
  safe : j0.l.next ≤ n → j0.l.next + safe ≤ n
  cells : ∀ i : Nat, (i : Int) = n - j0.l.next → st[i]? = some r.c
  stage : 0 < stage → n = j0.l.next + ((st.length : Int) - 1)
theorem live_crash {j0 j : Jr} (h0 : j0.room 21) {st : List (List Int)} {safe : Int} {used : Nat} (h : Live j0 j st safe used) (hu : used ≤ 20) {stage keep : Int} (hz : (crashJ j stage keep).2 = 0) :
    ∃ (r : Jr) (n : Int), CrashF j0 j st safe stage keep r n := by
  obtain ⟨r0, r1, r2, r3, r4, r5⟩ := h0
  have hne := h.ne
  have hcnt := h.cnt
  have hn := h.next
  obtain ⟨r, n, q1, q2, q3, q4, q5, q6, q7, _⟩ := crash_rec h.ok (by omega) hz
  have hsu := h.sure
  have hlow := h.low
  have hbs : (baseV j.s).1 ≤ j.sure := by unfold Jr.sure; omega
  refine ⟨r, n, q1, q2, q3, by omega, ?_, ?_, ?_, fun hs => by rw [q7 hs, hn]⟩
  · intro hlt
    by_cases c : 0 ≤ safe
    · have := hsu c; omega
    · omega
  · intro hge
    by_cases c : 0 ≤ safe
    · have := hsu c; omega
    · omega
  · intro i hi
    have hil : i < st.length := by omega
    rw [List.getElem?_eq_getElem hil, h.at' i hil (by omega), q4, show j0.l.next + (i : Int) = n by omega]
theorem more_go {r : Jr} (h : r.ok) (hr : r.room 1) : ∃ j2 : Jr, doJ r (3, -1) = (j2, r.l.next, 0) ∧ j2.c = stepC r.c (3, -1) := by
  obtain ⟨r0, r1, r2, r3, r4, r5⟩ := hr
  have hin := room_in ⟨r0, r1, r2, r3, r4, r5⟩
  have hm : mOK (3, -1) = true := by decide
  have g3 := inB_st (inB_step hin (by omega) hm) (by omega)
  obtain ⟨l2, q1, _⟩ := do_go h hm g3 (by omega) (by omega)
  exact ⟨_, q1, rfl⟩
theorem live_start {j : Jr} (h : j.ok) (h0 : j.room 21) : (crashJ j 0 0).2 = 0 ∧ j.s.ask (ptB j) = 0 ∧ ∃ n : Int, (recoverJ (crashJ j 0 0).1).2 = (n, 0) ∧ (n < j.l.next → Live j j [j.c] (-1) 0) ∧ (¬ n < j.l.next → Live j j [j.c] 0 0) := by
  have hroom := h0
  obtain ⟨r0, r1, r2, r3, r4, r5⟩ := h0
  have f := facts h
  obtain ⟨s2, p1, p2, p3, p4, p5, p6, p7, p8, p9⟩ := save_go h (by omega) (by omega) (by omega) (by omega)
  have hz := crashJ_zero h p9 (stage := 0) (by omega) (by omega)
  obtain ⟨r, n, q1, q2, q3, q4, q5, q6, q7, q8⟩ := crash_rec h (by omega) hz
  have hs := q8 rfl rfl
  have hin := room_in hroom
  have key : ∀ safe : Int, -1 ≤ safe → safe ≤ 0 → (0 ≤ safe → j.l.next + safe ≤ j.sure) → Live j j [j.c] safe 0 := fun safe a b c =>
    ⟨h, by simp, by simp, by simp, rfl, by simp, by simpa using hin, fun c hc => by simp at hc; rw [hc]; exact f.j8, fun i hi _ => by
      simp at hi
      subst hi
      simp [at_next h], c, a, by simpa using b, by simp, r0, r1⟩
  refine ⟨hz, p9, n, by rw [q1], fun hlt => key (-1) (by omega) (by omega) (fun h => by omega), fun hge => key 0 (by omega) (by omega) (fun _ => by omega)⟩
theorem live_ask {j0 j : Jr} (h0 : j0.room 21) {st : List (List Int)} {safe : Int} {used : Nat} (h : Live j0 j st safe used) (hu : used ≤ 20) : j.s.ask (ptB j) = 0 := by
  obtain ⟨r0, r1, r2, r3, r4, r5⟩ := h0
  have hne := h.ne
  have hcnt := h.cnt
  have hn := h.next
  have hsn := h.snext
  have hc0 := h.cap0
  have hc1 := h.cap1
  obtain ⟨s2, p1, p2, p3, p4, p5, p6, p7, p8, p9⟩ := save_go h.ok (by omega) (by omega) (by omega) (by omega)
  exact p9
set_option maxHeartbeats 2000000
def jrV (j : Jr) (fl : Bool) : Blk := .var (.t (.sl (bT j.s.d0.syn)) fl :: .t (.sl (bT j.s.d0.tail)) fl :: .t (.i .i64 j.s.d0.cap) fl :: .t (.b j.s.d0.down) fl :: .t (.sl (bT j.s.d1.syn)) fl :: .t (.sl (bT j.s.d1.tail)) fl :: .t (.i .i64 j.s.d1.cap) fl :: .t (.b j.s.d1.down) fl :: .t (.i .i64 j.s.next) fl ::
  .t (.sl (bT j.l.dev.syn)) fl :: .t (.sl (bT j.l.dev.tail)) fl :: .t (.i .i64 j.l.dev.cap) fl :: .t (.b j.l.dev.down) fl :: .t (.i .i64 j.l.first) fl :: .t (.i .i64 j.l.next) fl :: clF fl j.c)
attribute [go_sem] jrV
end Go.Proofs.YtlfpafdkegnkoaaGreat.Pm
