/- journal: the statement JournalSurvives. No law of Go's is stated here. -/
import Derived.Test.YtlfpafdkegnkoaaGreatPmMo
set_option linter.all false
set_option maxRecDepth 100000
set_option maxHeartbeats 2000000
namespace Go.Proofs.YtlfpafdkegnkoaaGreat.Pm
open Go Go.RowKit
def stT (st : List (List Int)) : List (List T) := st.map clT
theorem stT_length (st : List (List Int)) : (stT st).length = st.length := by simp [stT]
attribute [go_sem] stT_length
theorem stT_get {st : List (List Int)} {k : Nat} {c : List Int} (h : st[k]? = some c) : (stT st)[k]? = some (clT c) := by simp [stT, h]
def svF (l : List (Int × Int)) (stage keep first : Int) (p : Nat × Jr × Bool × List (List Int) × Int) : S := ⟨tmL [(1, .t (.sl (mvT l)) false), (2, .t (.i .i64 stage) true), (3, .t (.i .i64 keep) true), (4, .ptr 0 0), (9, .row 1 (p.2.2.2.1.length - 1) 0 p.2.2.2.1.length), (10, .t (.i .i64 first) false), (11, .t (.i .i64 p.2.2.2.2) true), (14, .t (.i .i64 p.1) true)], [jrV p.2.1 p.2.2.1, .row (p.2.2.2.1.length - 1) 8 (stT p.2.2.2.1) true]⟩
theorem live_more {j0 j : Jr} {st : List (List Int)} {safe : Int} {used : Nat} (h : Live j0 j st safe used) : Live j0 j st safe (used + 1) :=
  ⟨h.ok, h.ne, by have := h.cnt; omega, h.next, h.cap, h.len, h.cells, h.st8, h.at', h.sure, h.low, h.high, by have := h.snext; omega, h.cap0, h.cap1⟩
theorem surv_loop (j : Jr) (hr : j.room 21) (l : List (Int × Int)) (hl : l.length ≤ 20) (hlr : ∀ m ∈ l, i64B m.1 ∧ i64B m.2) (stage keep : Int) (s0 : -9223372036854775808 ≤ stage) (s1 : stage < 9223372036854775808) (k0 : -9223372036854775808 ≤ keep) (k1 : keep < 9223372036854775808) (safe : Int) (hL : Live j j [j.c] safe 0) :
    Lk (Xof Tryz.prog) (retT (Xof Tryz.prog).ti [ResultVar.tmp 8] [(T.b true, true)]) (Kont.block 0 (Kont.seq kc259 Kont.base)) [(9, 8)] [1, 2, 3, 4, 9, 10, 11, 14] kc239 (svF l stage keep j.l.next (0, j, false, [j.c], safe)) Lock.mk := by
  have hA := s_law06_alive
  refine loop_l (α := Nat × Jr × Bool × List (List Int) × Int) (svF l stage keep j.l.next) (fun p => l.length - p.1) (fun p => p.1 ≤ l.length ∧ Live j p.2.1 p.2.2.2.1 p.2.2.2.2 p.1) (0, j, false, [j.c], safe) (by simp -implicitDefEqProofs only [go_sem, seval, svF]) ⟨Nat.zero_le _, hL⟩ ?_
  clear hL
  intro p hp R hR
  obtain ⟨i, now, fl, st, sf⟩ := p
  obtain ⟨hi, hl2⟩ := hp
  simp only at hi hl2
  have hnf := ok_fineJ hl2.ok
  have n8 := hnf.2.2.1
  have tn := clF_take (l := fl) n8
  have un := clF_drop (l := fl) n8
  have hne := hl2.ne
  have hcnt := hl2.cnt
  have hlast := stT_get (live_last hl2)
  have ews : IntKind.i64.wrap ((st.length : Int) - 1) = ((st.length - 1 : Nat) : Int) := by rw [wrap_i64_id (by omega) (by omega)]; omega
  have es : (st.length : Int) - 1 = ((st.length - 1 : Nat) : Int) := by omega
  have ltk := clT_take n8
  have lt1 : (((st.length - 1 : Nat) : Int) < (st.length : Int)) = True := eq_true (by omega)
  have lt0 : ((0 : Int) ≤ ((st.length - 1 : Nat) : Int)) = True := eq_true (by omega)
  simp -implicitDefEqProofs only [go_sem, seval, sk, svF]
  refine wcond_mk (fun hh => ?_) (fun hh => ?_)
  · have hi' : i < l.length := by have := of_decide_eq_true hh; omega
    have hii : ((i : Int) < (l.length : Int)) = True := eq_true (by omega)
    have e4 : IntKind.i64.wrap ((i : Int) + 1) = ((i + 1 : Nat) : Int) := by rw [wrap_i64_id (by omega) (by omega)]; omega
    have mr := hlr _ (List.getElem_mem hi')
    simp -implicitDefEqProofs only [go_sem, seval, sk, n8, tn, mvT_get hi', hii]
    refine ⟨clF_one _ _, ?_⟩
    by_cases c7 : 7 < l[i].1
    · by_cases c2 : l[i].1.tmod 2 = 0
      · have c2' : (l[i].1.tmod 2 == 0) = true := by simp [c2]
        obtain ⟨j2, q1, q2, q3⟩ := live_sync hl2
        rw [es] at q3
        have yF := s_journal_Sync now hnf
        rw [q1] at yF
        have j2f := ok_fineJ q3.ok
        have m8 := j2f.2.2.1
        have t2 := clF_take (l := true) m8
        simp -implicitDefEqProofs only [go_sem, seval, sk, n8, eq_true c7, mvT_get hi', hii, c2, c2', tn]
        refine call_k yF ?_ (by simp -implicitDefEqProofs only [go_sem, seval, sk, Jr.cells]) (by simp -implicitDefEqProofs only [go_sem, seval, sk, opJ])
        have pj := plains_clF true m8
        have eqj := eqCells_clT (show j2.c.length = now.c.length by omega)
        rw [decide_eq_true q2] at eqj
        simp -implicitDefEqProofs only [go_sem, seval, sk, opJ, Jr.cells, clF_map, m8, un, n8, List.append_nil, ews, hlast, ltk, clT_length, t2, pj, eqj, lt1, lt0, e4]
        refine ⟨clF_one _ _, clT_flat _, clF_one _ _, hR (i + 1, j2, true, st, ((st.length - 1 : Nat) : Int)) _ ?_ ⟨by simp only; omega, q3⟩ (by simp only; omega)⟩
        simp -implicitDefEqProofs only [go_sem, seval, svF]
      · have c2' : (l[i].1.tmod 2 == 0) = false := by simp [c2]
        obtain ⟨j2, q1, q2, q3⟩ := live_save hr hl2 (by omega)
        rw [es] at q3
        have yF := s_journal_Save now hnf
        rw [q1] at yF
        have j2f := ok_fineJ q3.ok
        have m8 := j2f.2.2.1
        have t2 := clF_take (l := true) m8
        simp -implicitDefEqProofs only [go_sem, seval, sk, n8, eq_true c7, mvT_get hi', hii, c2', tn]
        refine call_k yF ?_ (by simp -implicitDefEqProofs only [go_sem, seval, sk, Jr.cells]) (by simp -implicitDefEqProofs only [go_sem, seval, sk, opJ])
        have pj := plains_clF true m8
        have eqj := eqCells_clT (show j2.c.length = now.c.length by omega)
        rw [decide_eq_true q2] at eqj
        simp -implicitDefEqProofs only [go_sem, seval, sk, opJ, Jr.cells, clF_map, m8, un, n8, List.append_nil, ews, hlast, ltk, clT_length, t2, pj, eqj, lt1, lt0, e4]
        refine ⟨clF_one _ _, clT_flat _, clF_one _ _, hR (i + 1, j2, true, st, ((st.length - 1 : Nat) : Int)) _ ?_ ⟨by simp only; omega, q3⟩ (by simp only; omega)⟩
        simp -implicitDefEqProofs only [go_sem, seval, svF]
    · have hV := s_ref06_Valid l[i]
      simp -implicitDefEqProofs only [go_sem, seval, sk, n8, eq_false c7, mvT_get hi', hii, tn]
      refine call_k hV ?_
      cases hm : mOK l[i] with
      | false =>
        have pj := plains_clF fl n8
        have eqj := eqCells_clT (show now.c.length = now.c.length from rfl)
        rw [decide_eq_true rfl] at eqj
        simp -implicitDefEqProofs only [go_sem, seval, sk, n8, tn, ews, hlast, ltk, clT_length, pj, eqj, lt1, lt0, e4, un, List.append_nil]
        refine ⟨clT_flat _, clF_one _ _, hR (i + 1, now, fl, st, sf) _ ?_ ⟨by simp only; omega, live_more hl2⟩ (by simp only; omega)⟩
        simp -implicitDefEqProofs only [go_sem, seval, svF]
      | true =>
        obtain ⟨j2, q1, q2, q3⟩ := live_do hr hl2 (by omega) hm
        have dF := s_journal_Do now hnf l[i] mr.2.1 mr.2.2
        rw [q1] at dF
        have aF := s_ref06_Apply now.c n8 [l[i]] (by simp)
        rw [q2, mvT_one] at aF
        have j2f := ok_fineJ q3.ok
        have m8 := j2f.2.2.1
        have t2 := clF_take (l := true) m8
        simp -implicitDefEqProofs only [go_sem, seval, sk, n8, mvT_get hi', hii, tn]
        refine call_d dF ?_ (by simp -implicitDefEqProofs only [go_sem, seval, sk, Jr.cells]) (by simp -implicitDefEqProofs only [go_sem, seval, sk, opJ3])
        simp -implicitDefEqProofs only [go_sem, seval, sk, opJ3, Jr.cells, clF_map, m8, un, n8, List.append_nil, ews, hlast, ltk, clT_length, lt1, lt0, mvT_get hi', hii]
        refine ⟨clF_one _ _, ?_⟩
        refine call_d aF ?_ (by simp -implicitDefEqProofs only [go_sem, seval, sk, ltk])
        have hts : List.take st.length (stT st) = stT st := List.take_of_length_le (by rw [stT_length]; exact Nat.le_refl _)
        have e5 : IntKind.i64.wrap (((st.length + 1 : Nat) : Int) - 1) = ((st.length : Nat) : Int) := by rw [wrap_i64_id (by omega) (by omega)]; omega
        have hg5 : (stT st ++ [clT j2.c])[st.length]? = some (clT j2.c) := by rw [List.getElem?_append_right (by rw [stT_length]; exact Nat.le_refl _), stT_length, Nat.sub_self]; rfl
        have e6 : st.length - 1 + 1 = st.length := by omega
        have e7 : (((st.length : Nat) : Int) < ((st.length + 1 : Nat) : Int)) = True := eq_true (by omega)
        have e8 : ((0 : Int) ≤ ((st.length : Nat) : Int)) = True := eq_true (by omega)
        have hln : (stT st ++ [clT j2.c]).length = st.length + 1 := by rw [List.length_append, stT_length]; rfl
        have pj := plains_clF true m8
        have eqj := eqCells_clT (show j2.c.length = j2.c.length from rfl)
        rw [decide_eq_true rfl] at eqj
        have ltk2 := clT_take m8
        simp -implicitDefEqProofs only [go_sem, seval, sk, clF_map, m8, t2, hts, e5, hg5, e6, e7, e8, hln, pj, eqj, ltk2, clT_length, e4, un, n8, List.append_nil]
        have ok8 : okEs 8 [clT j2.c] := fun e he => by
          simp only [List.mem_singleton] at he
          subst he
          exact ⟨by rw [clT_length, m8], clT_one _⟩
        have hsl : (st ++ [j2.c]).length = st.length + 1 := by simp
        have hsa : stT (st ++ [j2.c]) = stT st ++ [clT j2.c] := by simp [stT]
        refine ⟨clF_one _ _, ⟨ok8, by unfold room; omega⟩, clT_flat _, clF_one _ _, hR (i + 1, j2, true, st ++ [j2.c], sf) _ ?_ ⟨by simp only; omega, q3⟩ (by simp only; omega)⟩
        simp -implicitDefEqProofs only [go_sem, seval, svF, hsl, hsa, Nat.add_sub_cancel]
  · have hi' : i = l.length := by have := of_decide_eq_false hh; omega
    subst hi'
    have cF := s_journal_Crash now hnf stage keep s0 s1 k0 k1
    obtain ⟨cf1, cf2, cf3⟩ := crashJ_fine hnf stage keep
    have hck := live_ask hr hl2 (by omega)
    have hce := crashJ_err hl2.ok hck stage keep
    have LC := fun hz => live_crash hr hl2 (by omega) (stage := stage) (keep := keep) hz
    have e23 := recoverJ_len (j := (crashJ now stage keep).1)
    have rF := s_journal_Recover (crashJ now stage keep).1 cf1 cf2 cf3
    have LR : (crashJ now stage keep).2 = 0 → ∃ (r : Jr) (n : Int), CrashF j now st sf stage keep r n ∧ recoverJ (crashJ now stage keep).1 = (r, n, 0) := fun hz => by
      obtain ⟨r, n, F⟩ := LC hz
      exact ⟨r, n, F, F.rec'⟩
    clear LC
    generalize crashJ now stage keep = cj at *
    obtain ⟨d, ec⟩ := cj
    simp only at hce LR cf1 cf2 cf3 rF e23
    have td := clF_take (l := true) cf3
    simp -implicitDefEqProofs only [go_sem, seval, sk, n8, tn]
    refine call_k cF ?_ (by simp -implicitDefEqProofs only [go_sem, seval, sk, Jr.cells]) (by simp -implicitDefEqProofs only [go_sem, seval, sk, opJ])
    simp -implicitDefEqProofs only [go_sem, seval, sk, opJ, Jr.cells, clF_map, cf3]
    refine ⟨clF_one _ _, ?_⟩
    rcases hce with rfl | rfl
    · obtain ⟨r, n, F, hrec⟩ := LR rfl
      rw [hrec] at rF e23
      simp only at e23
      have tr := clF_take (l := true) e23
      have rf := ok_fineJ F.ok
      have kF := s_ref06_Check r rf
      rw [chkJ_ok F.ok] at kF
      simp -implicitDefEqProofs only [go_sem, seval, sk, cf3, td]
      try simp -implicitDefEqProofs only [go_sem, seval, sk, cf3, td]
      refine call_k rF ?_ (by simp -implicitDefEqProofs only [go_sem, seval, sk, Jr.cells]) (by simp -implicitDefEqProofs only [go_sem, seval, sk, opJ3])
      simp -implicitDefEqProofs only [go_sem, seval, sk, opJ3, Jr.cells, clF_map, e23]
      refine ⟨clF_one _ _, ?_⟩
      have hfb := (ok_bounds hl2.ok.2.1).1
      have hj1 := hr.2.2.2.2.1
      have hjn := hl2.next
      have hF1 := F.high
      have hF2 := F.safe
      have hlo := hl2.low
      have hhi := hl2.high
      have hnn : 0 ≤ n := by
        have := (ok_bounds F.ok.2.1).1
        have := F.ok.2.1.2.2.2.1
        have := F.next
        omega
      have hjz : -1000000 ≤ j.l.next := by omega
      have w1 : IntKind.i64.wrap (j.l.next + (st.length : Int)) = j.l.next + (st.length : Int) := wrap_i64_id (by omega) (by omega)
      have w2 : IntKind.i64.wrap (j.l.next + (st.length : Int) - 1) = j.l.next + (st.length : Int) - 1 := wrap_i64_id (by omega) (by omega)
      have b1 : (j.l.next + (st.length : Int) - 1 < n) = False := eq_false (by omega)
      simp -implicitDefEqProofs only [go_sem, seval, sk, w1, w2, b1, e23, tr]
      refine call_k kF ?_ (by simp -implicitDefEqProofs only [go_sem, seval, sk, Jr.cells])
      simp -implicitDefEqProofs only [go_sem, seval, sk, w1, w2, b1]
      by_cases d1 : n < j.l.next
      · simp -implicitDefEqProofs only [go_sem, seval, sk, eq_true d1, eq_true (F.low d1)]
        refine call_k hA ?_
        try simp -implicitDefEqProofs only [go_sem, seval, sk]
      · obtain ⟨k, hkn⟩ : ∃ k : Nat, (k : Int) = n - j.l.next := ⟨(n - j.l.next).toNat, by omega⟩
        have hst := stT_get (F.cells k hkn)
        have w3 : IntKind.i64.wrap (j.l.next + sf) = j.l.next + sf := wrap_i64_id (by omega) (by omega)
        have b2 : (n < j.l.next + sf) = False := eq_false (by have := hF2 (by omega); omega)
        have w4 : IntKind.i64.wrap (n - j.l.next) = (k : Int) := by rw [wrap_i64_id (by omega) (by omega)]; omega
        have b3 : ((k : Int) < (st.length : Int)) = True := eq_true (by omega)
        have b4 : ((0 : Int) ≤ (k : Int)) = True := eq_true (by omega)
        simp -implicitDefEqProofs only [go_sem, seval, sk, eq_false d1, w3, b2, e23, tr, w4, hst, b3, b4]
        have pr := plains_clF true e23
        have eqr := eqCells_clT (show r.c.length = r.c.length from rfl)
        rw [decide_eq_true rfl] at eqr
        have ltr := clT_take e23
        have RF := s_ref06_Room r F.ok 1 (by decide) (by decide)
        simp -implicitDefEqProofs only [go_sem, seval, sk, pr, ltr, eqr, clT_length, e23]
        refine ⟨clT_flat _, ?_⟩
        by_cases d2 : 0 < stage
        case' pos =>
          have hnst := F.stage d2
          have b5 : (n != j.l.next + (st.length : Int) - 1) = false := by simp; omega
          simp -implicitDefEqProofs only [go_sem, seval, sk, eq_true d2, w1, w2, b5, b2, w3, e23, tr]
        case' neg => simp -implicitDefEqProofs only [go_sem, seval, sk, eq_false d2, b2, w3, e23, tr]
        all_goals
          refine call_k RF ?_ (by simp -implicitDefEqProofs only [go_sem, seval, sk, Jr.cells])
          by_cases d3 : r.room 1
          · rw [decide_eq_true d3]
            obtain ⟨j3, m1, m2⟩ := more_go F.ok d3
            have dF := s_journal_Do r rf (3, -1) (by decide) (by decide)
            rw [m1] at dF
            have m3 : j3.c.length = 8 := by rw [m2, stepC_len, e23]
            have t3 := clF_take (l := true) m3
            simp -implicitDefEqProofs only [go_sem, seval, sk, e23, tr]
            refine call_k dF ?_ (by simp -implicitDefEqProofs only [go_sem, seval, sk, Jr.cells]) (by simp -implicitDefEqProofs only [go_sem, seval, sk, opJ3])
            have i3 : 3 < j3.c.length := by omega
            have i4 : 3 < r.c.length := by omega
            have x3 : j3.c[3] = r.c[3] - 1 := by
              have hi5 : 3 < (stepC r.c (3, -1)).length := by rw [stepC_len]; exact i4
              have : j3.c[3] = (stepC r.c (3, -1))[3] := by congr 1
              rw [this]
              simp [stepC, i4]
              omega
            have b6 : IntKind.i64.wrap (r.c[3] - 1) = r.c[3] - 1 := by
              have := st_range (facts F.ok).st _ (List.getElem_mem i4)
              have := stOK_at (facts F.ok).st i4
              exact wrap_i64_id (by omega) (by omega)
            simp -implicitDefEqProofs only [go_sem, seval, sk, opJ3, Jr.cells, clF_map, m3]
            refine ⟨clF_one _ _, ?_⟩
            simp -implicitDefEqProofs only [go_sem, seval, sk, F.next, clF_get _ i3, clF_get _ i4, b6, x3]
            refine call_k hA ?_
            simp -implicitDefEqProofs only [go_sem, seval, sk]
          · rw [decide_eq_false d3]
            simp -implicitDefEqProofs only [go_sem, seval, sk]
            refine call_k hA ?_
            simp -implicitDefEqProofs only [go_sem, seval, sk]
    · simp -implicitDefEqProofs only [go_sem, seval, sk]
      refine call_k hA ?_
      simp -implicitDefEqProofs only [go_sem, seval, sk]
theorem law_JournalSurvives (j : Jr) (hj : j.given) (l : List (Int × Int)) (hl0 : l.length ≤ 140737488355328) (hlr : ∀ m ∈ l, i64B m.1 ∧ i64B m.2) (stage keep : Int) (s0 : -9223372036854775808 ≤ stage) (s1 : stage < 9223372036854775808) (k0 : -9223372036854775808 ≤ keep) (k1 : keep < 9223372036854775808) :
    Spec Tryz.prog 5 [.agg j.cells, .sl (mvT l), .i .i64 stage, .i .i64 keep] [] (.t (.b true) true) := by
  refine spec_k (hold mixed) b_law06_JournalSurvives [(.b true, true)] ?_
  have hF := s_law06_fit j hj 21 (by decide) (by decide)
  have hA := s_law06_alive
  have h8 := hj.len
  have htk := clF_take (l := false) h8
  simp -implicitDefEqProofs only [go_sem, seval, sk, Jr.cells, clF_map]
  by_cases c1 : (20 : Int) < (l.length : Int)
  · simp -implicitDefEqProofs only [go_sem, seval, sk, eq_true c1]
    refine call_k hA ?_
    simp -implicitDefEqProofs only [go_sem, seval, sk]
  · simp -implicitDefEqProofs only [go_sem, seval, sk, eq_false c1, h8]
    refine call_k hF ?_ (by simp -implicitDefEqProofs only [go_sem, seval, sk, Jr.cells, htk])
    cases hfit : (!greatJ j && (decide j.ok && decide (j.room 21))) with
    | false =>
      simp -implicitDefEqProofs only [go_sem, seval, sk, eq_false c1]
      refine call_k hA ?_
      simp -implicitDefEqProofs only [go_sem, seval, sk]
    | true =>
      have h3 : greatJ j = false ∧ j.ok ∧ j.room 21 := by simpa using hfit
      obtain ⟨hg, hk, hr⟩ := h3
      have hjf := ok_fineJ hk
      obtain ⟨z1, z2, n, z3, z4, z5⟩ := live_start hk hr
      have sF := s_law06_safely j hjf
      rw [show safelyJ j = (n, 0) by rw [safelyJ, if_pos z1, z3]] at sF
      simp -implicitDefEqProofs only [go_sem, seval, sk, eq_false c1, h8, htk]
      refine call_k sF ?_ (by simp -implicitDefEqProofs only [go_sem, seval, sk, Jr.cells, htk])
      simp -implicitDefEqProofs only [go_sem, seval, sk]
      by_cases c2 : n < j.l.next
      · simp -implicitDefEqProofs only [go_sem, seval, sk, eq_true c2]
        exact surv_loop j hr l (by omega) hlr stage keep s0 s1 k0 k1 (-1) (z4 c2)
      · simp -implicitDefEqProofs only [go_sem, seval, sk, eq_false c2]
        exact surv_loop j hr l (by omega) hlr stage keep s0 s1 k0 k1 0 (z5 c2)
end Go.Proofs.YtlfpafdkegnkoaaGreat.Pm
