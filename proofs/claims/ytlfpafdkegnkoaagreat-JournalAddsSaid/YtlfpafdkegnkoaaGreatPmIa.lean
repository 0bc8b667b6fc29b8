/- journal: the statement JournalAdds. No law of Go's is stated here. -/
import Derived.Test.YtlfpafdkegnkoaaGreatPmMo
set_option linter.all false
set_option maxRecDepth 100000
set_option maxHeartbeats 2000000
namespace Go.Proofs.YtlfpafdkegnkoaaGreat.Pm
open Go Go.RowKit
theorem mvT_nil : mvT [] = [] := rfl
theorem mvT_take (l : List (Int × Int)) (k : Nat) : List.take k (mvT l) = mvT (l.take k) := by simp [mvT, List.map_take]
theorem mvT_drop (l : List (Int × Int)) (k : Nat) : List.drop k (mvT l) = mvT (l.drop k) := by simp [mvT, List.map_drop]
theorem mvT_app (a b : List (Int × Int)) : mvT (a ++ b) = mvT a ++ mvT b := by simp [mvT]
theorem okEs_mvT (l : List (Int × Int)) : okEs 2 (mvT l) := by
  intro e he
  simp only [mvT, List.mem_map] at he
  obtain ⟨m, _, rfl⟩ := he
  exact ⟨rfl, by simp [mT, T.one]⟩
def jrV (j : Jr) (fl : Bool) : Blk := .var (.t (.sl (bT j.s.d0.syn)) fl :: .t (.sl (bT j.s.d0.tail)) fl :: .t (.i .i64 j.s.d0.cap) fl :: .t (.b j.s.d0.down) fl :: .t (.sl (bT j.s.d1.syn)) fl :: .t (.sl (bT j.s.d1.tail)) fl :: .t (.i .i64 j.s.d1.cap) fl :: .t (.b j.s.d1.down) fl :: .t (.i .i64 j.s.next) fl ::
  .t (.sl (bT j.l.dev.syn)) fl :: .t (.sl (bT j.l.dev.tail)) fl :: .t (.i .i64 j.l.dev.cap) fl :: .t (.b j.l.dev.down) fl :: .t (.i .i64 j.l.first) fl :: .t (.i .i64 j.l.next) fl :: clF fl j.c)
attribute [go_sem] jrV
def adF (j : Jr) (l : List (Int × Int)) (at_ : Int) (k : Nat) : S := ⟨tmL [(1, .t (.sl (mvT l)) false), (2, .t (.i .i64 at_) true), (3, .ptr 0 0), (7, .row 1 k 0 k), (8, .t (.i .i64 ((l.length : Int) - 1 - k)) true)], [jrV j false, .row k 2 (mvT (l.drop (l.length - k)).reverse) true]⟩
def aiF (l : List (Int × Int)) (j : Jr) (cc cp : List Int) (p : Nat × Jr × Bool) : S := ⟨tmL [(1, .t (.sl (mvT l)) false), (3, .ptr 0 0), (9, .ptr 2 0), (17, .ptr 6 0), (18, .t (.i .i64 p.1) true)], [jrV j false, .row l.length 2 (mvT l.reverse) true, .var (clF true cc), .var (clF true cp), .var (clF true cc), .var (clF true cc), jrV p.2.1 p.2.2]⟩
theorem law_JournalAdds (j : Jr) (hj : j.given) (l : List (Int × Int)) (hl0 : l.length ≤ 140737488355328) (hlr : ∀ m ∈ l, i64B m.1 ∧ i64B m.2) (a : Int) (a0 : -9223372036854775808 ≤ a) (a1 : a < 9223372036854775808) :
    Spec Tryz.prog 4 [.agg j.cells, .sl (mvT l), .i .i64 a] [] (.t (.b true) true) := by
  refine spec_k (hold mixed) b_law06_JournalAdds [(.b true, true)] ?_
  have hF := s_law06_fit j hj 21 (by decide) (by decide)
  have hA := s_law06_alive
  have h8 := hj.len
  have htk := clF_take (l := false) h8
  simp -implicitDefEqProofs only [go_sem, seval, sk, Jr.cells, clF_map]
  by_cases c1 : (20 : Int) < (l.length : Int)
  · simp -implicitDefEqProofs only [go_sem, seval, sk, eq_true c1]
    first | refine call_k hA ?_ | refine call_d hA ?_
    simp -implicitDefEqProofs only [go_sem, seval, sk]
  · by_cases c2 : a < 0
    · simp -implicitDefEqProofs only [go_sem, seval, sk, eq_false c1, eq_true c2]
      first | refine call_k hA ?_ | refine call_d hA ?_
      simp -implicitDefEqProofs only [go_sem, seval, sk]
    · by_cases c3 : (l.length : Int) < a
      · simp -implicitDefEqProofs only [go_sem, seval, sk, eq_false c1, eq_false c2, eq_true c3]
        first | refine call_k hA ?_ | refine call_d hA ?_
        simp -implicitDefEqProofs only [go_sem, seval, sk]
      · simp -implicitDefEqProofs only [go_sem, seval, sk, eq_false c1, eq_false c2, eq_false c3, h8]
        first | refine call_k hF ?_ (by simp -implicitDefEqProofs only [go_sem, seval, sk, Jr.cells, htk]) | refine call_d hF ?_ (by simp -implicitDefEqProofs only [go_sem, seval, sk, Jr.cells, htk])
        cases hfit : (!greatJ j && (decide j.ok && decide (j.room 21))) with
        | false =>
          simp -implicitDefEqProofs only [go_sem, seval, sk]
          first | refine call_k hA ?_ | refine call_d hA ?_
          simp -implicitDefEqProofs only [go_sem, seval, sk]
        | true =>
          have h3 : greatJ j = false ∧ j.ok ∧ j.room 21 := by simpa using hfit
          obtain ⟨hg, hk, hr⟩ := h3
          have ew : IntKind.i64.wrap ((l.length : Int) - 1) = (l.length : Int) - 1 := wrap_i64_id (by omega) (by omega)
          simp -implicitDefEqProofs only [go_sem, seval, sk, ew]
          refine loop_l (α := Nat) (adF j l a) (fun k => l.length - k) (fun k => k ≤ l.length ∧ ∀ m ∈ l.drop (l.length - k), mOK m = true) 0 (by simp -implicitDefEqProofs only [go_sem, seval, adF, Nat.sub_zero, List.drop_length, List.reverse_nil, mvT_nil, Int.natCast_zero, Int.sub_zero]) ⟨Nat.zero_le _, by simp⟩ ?_
          intro k hkk R hR
          obtain ⟨hkl, hkv⟩ := hkk
          simp -implicitDefEqProofs only [go_sem, seval, sk, adF]
          refine wcond_mk (fun hh => ?_) (fun hh => ?_)
          · have hk' : k < l.length := by have := of_decide_eq_true hh; omega
            obtain ⟨q, hq⟩ : ∃ q : Nat, q + 1 + k = l.length := ⟨l.length - 1 - k, by omega⟩
            have hql : q < l.length := by omega
            have ei : (l.length : Int) - 1 - (k : Int) = (q : Int) := by omega
            have eq1 : ((q : Int) < (l.length : Int)) = True := eq_true (by omega)
            have eq0 : ((0 : Int) ≤ (q : Int)) = True := eq_true (by omega)
            have hV := s_ref06_Valid l[q]
            have e1 : IntKind.i64.wrap ((q : Int) - 1) = (l.length : Int) - 1 - ((k + 1 : Nat) : Int) := by rw [wrap_i64_id (by omega) (by omega)]; omega
            have hd : l.drop (l.length - (k + 1)) = l[q] :: l.drop (l.length - k) := by
              rw [show l.length - (k + 1) = q by omega, show l.length - k = q + 1 by omega, List.drop_eq_getElem_cons hql]
            simp -implicitDefEqProofs only [go_sem, seval, sk, ei, mvT_get hql, eq1, eq0]
            first | refine call_k hV ?_ | refine call_d hV ?_
            cases hm : mOK l[q] with
            | false =>
              simp -implicitDefEqProofs only [go_sem, seval, sk]
              first | refine call_k hA ?_ | refine call_d hA ?_
              simp -implicitDefEqProofs only [go_sem, seval, sk]
            | true =>
              simp -implicitDefEqProofs only [go_sem, seval, sk, ei, mvT_get hql, eq1, eq0, e1]
              have hlen : (l.drop (l.length - k)).reverse.length = k := by rw [List.length_reverse, List.length_drop]; omega
              refine ⟨⟨okEs_mvT [l[q]], by omega, by unfold room; omega⟩, hR (k + 1) _ ?_ ⟨by omega, fun m hm2 => ?_⟩ (by omega)⟩
              · have hrw : List.take k (mvT (l.drop (l.length - k)).reverse) ++ [[.i .i64 l[q].1, .i .i64 l[q].2]] = mvT (l.drop (l.length - (k + 1))).reverse := by
                  rw [hd, List.reverse_cons, mvT_app, List.take_of_length_le (by rw [mvT_length, hlen]; exact Nat.le_refl _)]
                  rfl
                rw [hrw]
                simp -implicitDefEqProofs only [go_sem, seval, adF]
              · rw [hd] at hm2
                rcases List.mem_cons.1 hm2 with rfl | hm2
                · exact hm
                · exact hkv m hm2
          · have hk' : k = l.length := by have := of_decide_eq_false hh; omega
            subst hk'
            rw [Nat.sub_self, List.drop_zero] at hkv
            obtain ⟨an, rfl⟩ : ∃ an : Nat, a = an := ⟨a.toNat, by omega⟩
            have hin := room_in hr
            obtain ⟨g1, g1'⟩ := apply_go l j.c (1000000000 - 1000000 * 21) (by omega) hin hkv (by omega)
            obtain ⟨g2, g2'⟩ := apply_go (l.take an) j.c (1000000000 - 1000000 * 21) (by omega) hin (fun m hm => hkv m (List.mem_of_mem_take hm)) (by rw [List.length_take]; omega)
            obtain ⟨g3, _⟩ := apply_go (l.drop an) (goC j.c (l.take an)) _ (by omega) g2' (fun m hm => hkv m (List.mem_of_mem_drop hm)) (by rw [List.length_take, List.length_drop]; omega)
            obtain ⟨g4, _⟩ := apply_go l.reverse j.c (1000000000 - 1000000 * 21) (by omega) hin (fun m hm => hkv m (List.mem_reverse.1 hm)) (by rw [List.length_reverse]; omega)
            rw [← goC_app, List.take_append_drop] at g3
            rw [goC_reverse] at g4
            have l1 : (goC j.c l).length = 8 := by rw [goC_len, h8]
            have l2 : (goC j.c (l.take an)).length = 8 := by rw [goC_len, h8]
            have p1 := s_journal_Apply j.c h8 l hl0
            have p2 := s_journal_Apply j.c h8 (l.take an) (by rw [List.length_take]; omega)
            have p3 := s_journal_Apply (goC j.c (l.take an)) l2 (l.drop an) (by rw [List.length_drop]; omega)
            have p4 := s_journal_Apply j.c h8 l.reverse (by rw [List.length_reverse]; omega)
            rw [g1] at p1
            rw [g2] at p2
            rw [g3] at p3
            rw [g4] at p4
            have ha : ∀ (i : Nat) (hi : i < l.length) (jj : Jr), After j jj (l.take i) → ∃ j2 : Jr, doJ jj l[i] = (j2, jj.l.next, 0) ∧ After j j2 (l.take (i + 1)) := fun i hi jj hjj => by
              have := after_do hr hjj (by rw [List.length_take]; omega) (fun m hm => hkv m (List.mem_of_mem_take hm)) (hkv _ (List.getElem_mem hi))
              rw [List.take_append_getElem hi] at this
              exact this
            have haf : ∀ jj : Jr, After j jj l → jj.c = goC j.c l := fun jj h => h.c
            generalize goC j.c l = cc at *
            generalize goC j.c (l.take an) = cp at *
            have t1 := clF_take (l := true) l1
            have t2 := clF_take (l := true) l2
            have en1 : ((an : Int) ≤ (l.length : Int)) = True := eq_true (by omega)
            have en0 : ((0 : Int) ≤ (an : Int)) = True := eq_true (by omega)
            simp -implicitDefEqProofs only [go_sem, seval, sk, Nat.sub_self, List.drop_zero]
            refine ⟨by omega, ?_⟩
            first | refine call_k p1 ?_ (by simp -implicitDefEqProofs only [go_sem, seval, sk, htk]) | refine call_d p1 ?_ (by simp -implicitDefEqProofs only [go_sem, seval, sk, htk])
            simp -implicitDefEqProofs only [go_sem, seval, sk, clF_map, l1]
            refine ⟨clF_one _ _, ?_⟩
            simp -implicitDefEqProofs only [go_sem, seval, sk, en1, en0, h8, htk]
            refine ⟨.inl trivial, ?_⟩
            first | refine call_k p2 ?_ (by simp -implicitDefEqProofs only [go_sem, seval, sk, htk, mvT_take, Int.sub_zero, Int.toNat_natCast]) | refine call_d p2 ?_ (by simp -implicitDefEqProofs only [go_sem, seval, sk, htk, mvT_take, Int.sub_zero, Int.toNat_natCast])
            simp -implicitDefEqProofs only [go_sem, seval, sk, clF_map, l2, htk]
            refine ⟨clF_one _ _, ⟨by omega, .inr (okEs_mvT _)⟩, ?_⟩
            have hsl : List.take ((l.length : Int) - (an : Int)).toNat (List.drop an (mvT l)) = mvT (l.drop an) := by
              rw [List.take_of_length_le (by rw [List.length_drop, mvT_length]; omega), mvT_drop]
            simp -implicitDefEqProofs only [go_sem, seval, sk, t2, l2]
            first | refine call_k p3 ?_ (by simp -implicitDefEqProofs only [go_sem, seval, sk, t2, hsl]) | refine call_d p3 ?_ (by simp -implicitDefEqProofs only [go_sem, seval, sk, t2, hsl])
            simp -implicitDefEqProofs only [go_sem, seval, sk, clF_map, l1, t2]
            refine ⟨clF_one _ _, ?_⟩
            have hrv : List.take l.length (mvT l.reverse) = mvT l.reverse := List.take_of_length_le (by rw [mvT_length, List.length_reverse]; exact Nat.le_refl _)
            simp -implicitDefEqProofs only [go_sem, seval, sk, h8, htk]
            first | refine call_k p4 ?_ (by simp -implicitDefEqProofs only [go_sem, seval, sk, htk, hrv, List.length_reverse]) | refine call_d p4 ?_ (by simp -implicitDefEqProofs only [go_sem, seval, sk, htk, hrv, List.length_reverse])
            simp -implicitDefEqProofs only [go_sem, seval, sk, clF_map, l1]
            refine ⟨clF_one _ _, ?_⟩
            have pc := plains_clF true l1
            have eqc := eqCells_clT (show cc.length = cc.length from rfl)
            rw [decide_eq_true rfl] at eqc
            simp -implicitDefEqProofs only [go_sem, seval, sk, t1, pc, eqc, l1]
            refine ⟨clT_flat _, ?_⟩
            try simp -implicitDefEqProofs only [go_sem, seval, sk, t1, pc, eqc, l1]
            refine ⟨clT_flat _, ?_⟩
            simp -implicitDefEqProofs only [go_sem, seval, sk, h8, htk]
            refine ⟨clF_one _ _, ?_⟩
            have hjc := h8
            refine loop_l (α := Nat × Jr × Bool) (aiF l j cc cp) (fun p => l.length - p.1) (fun p => p.1 ≤ l.length ∧ After j p.2.1 (l.take p.1)) (0, j, false) (by simp -implicitDefEqProofs only [go_sem, seval, aiF]) ⟨Nat.zero_le _, after_nil hk⟩ ?_
            intro p hp R2 hR2
            obtain ⟨i, now, fl⟩ := p
            obtain ⟨hi, haft⟩ := hp
            simp only at hi haft
            have hnf := ok_fineJ haft.ok
            have n8 := hnf.2.2.1
            have tn := clF_take (l := fl) n8
            have un := clF_drop (l := fl) n8
            simp -implicitDefEqProofs only [go_sem, seval, sk, aiF]
            refine wcond_mk (fun hh => ?_) (fun hh => ?_)
            · have hi' : i < l.length := by have := of_decide_eq_true hh; omega
              have hii : ((i : Int) < (l.length : Int)) = True := eq_true (by omega)
              obtain ⟨j2, e1, e2⟩ := ha i hi' now haft
              have mr := hlr _ (List.getElem_mem hi')
              have dF := s_journal_Do now hnf l[i] mr.2.1 mr.2.2
              rw [e1] at dF
              have j2f := ok_fineJ e2.ok
              have m8 := j2f.2.2.1
              have t2n := clF_take (l := true) m8
              have hx1 : IntKind.i64.wrap (j.l.next + (i : Int)) = now.l.next := by
                have := haft.next
                rw [List.length_take] at this
                have := hr.2.2.2.2.1
                have hb := (ok_bounds hk.2.1).1
                have hbn := hk.2.1.2.2.2.1
                rw [wrap_i64_id (by omega) (by omega)]
                omega
              have hx2 : IntKind.i64.wrap (now.l.next + 1) = j2.l.next := by
                have q1 := haft.next
                have q2 := e2.next
                rw [List.length_take] at q1 q2
                have := hr.2.2.2.2.1
                have hb := (ok_bounds hk.2.1).1
                have hbn := hk.2.1.2.2.2.1
                rw [wrap_i64_id (by omega) (by omega)]
                omega
              have e4 : IntKind.i64.wrap ((i : Int) + 1) = ((i + 1 : Nat) : Int) := by rw [wrap_i64_id (by omega) (by omega)]; omega
              simp -implicitDefEqProofs only [go_sem, seval, sk, n8, tn, mvT_get hi', hii]
              first | refine call_k dF ?_ (by simp -implicitDefEqProofs only [go_sem, seval, sk, Jr.cells]) (by simp -implicitDefEqProofs only [go_sem, seval, sk, opJ3]) | refine call_d dF ?_ (by simp -implicitDefEqProofs only [go_sem, seval, sk, Jr.cells]) (by simp -implicitDefEqProofs only [go_sem, seval, sk, opJ3])
              simp -implicitDefEqProofs only [go_sem, seval, sk, opJ3, Jr.cells, clF_map, m8]
              refine ⟨clF_one _ _, ?_⟩
              simp -implicitDefEqProofs only [go_sem, seval, sk, hx1, hx2, m8, t2n, n8, un, List.append_nil, e4]
              refine ⟨clF_one _ _, hR2 (i + 1, j2, true) _ ?_ ⟨by simp only; omega, e2⟩ (by simp only; omega)⟩
              simp -implicitDefEqProofs only [go_sem, seval, aiF]
            · have hi' : i = l.length := by have := of_decide_eq_false hh; omega
              subst hi'
              rw [List.take_length] at haft
              have hnc := haf now haft
              have kF := s_ref06_Check now hnf
              rw [chkJ_ok haft.ok] at kF
              simp -implicitDefEqProofs only [go_sem, seval, sk, n8, tn]
              refine ⟨by omega, ?_⟩
              have pn := plains_clF fl n8
              have eqn := eqCells_clT (show now.c.length = cc.length by omega)
              rw [decide_eq_true hnc] at eqn
              simp -implicitDefEqProofs only [go_sem, seval, sk, t1, pn, pc, eqn, n8]
              refine ⟨clT_flat _, ?_⟩
              first | refine call_k kF ?_ (by simp -implicitDefEqProofs only [go_sem, seval, sk, Jr.cells, tn]) | refine call_d kF ?_ (by simp -implicitDefEqProofs only [go_sem, seval, sk, Jr.cells, tn])
              simp -implicitDefEqProofs only [go_sem, seval, sk]
              first | refine call_k hA ?_ | refine call_d hA ?_
              simp -implicitDefEqProofs only [go_sem, seval, sk]
end Go.Proofs.YtlfpafdkegnkoaaGreat.Pm
