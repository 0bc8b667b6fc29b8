/- top: the statement TopDevice. No law of Go's is stated here. -/
import Derived.Test.YtlfpafdkegnkoaaPmMp
set_option linter.all false
set_option maxRecDepth 100000
set_option maxHeartbeats 4000000
namespace Go.Proofs.Ytlfpafdkegnkoaa.Pm
open Go Go.RowKit
def jrW (j : Jr) (fl : Bool) : Blk := .var (.t (.sl (bT j.s.d0.syn)) fl :: .t (.sl (bT j.s.d0.tail)) fl :: .t (.i .i64 j.s.d0.cap) fl :: .t (.b j.s.d0.down) fl :: .t (.sl (bT j.s.d1.syn)) fl :: .t (.sl (bT j.s.d1.tail)) fl :: .t (.i .i64 j.s.d1.cap) fl :: .t (.b j.s.d1.down) fl :: .t (.i .i64 j.s.next) fl ::
  .t (.sl (bT j.l.dev.syn)) fl :: .t (.sl (bT j.l.dev.tail)) fl :: .t (.i .i64 j.l.dev.cap) fl :: .t (.b j.l.dev.down) fl :: .t (.i .i64 j.l.first) fl :: .t (.i .i64 j.l.next) fl :: clF fl j.c)
attribute [go_sem] jrW
theorem opsT_nil : opsT [] = [] := rfl
theorem okEs_op (o : DOp) : okEs 3 [o.cells] := by
  intro e he
  simp only [List.mem_singleton] at he
  subst he
  exact ⟨rfl, fun v hv => by simp [DOp.cells] at hv; rcases hv with rfl | rfl | rfl <;> trivial⟩
theorem opsT_take (l : List DOp) : List.take l.length (opsT l) = opsT l := List.take_of_length_le (by rw [opsT_length]; exact Nat.le_refl _)
theorem opsT_snoc (l : List DOp) (o : DOp) : opsT (l ++ [o]) = opsT l ++ [o.cells] := by simp [opsT]
theorem opsT_one (o : DOp) : opsT [o] = [o.cells] := rfl
theorem s_top_crashed {j : Jr} {ops : List DOp} {done saved points used : Nat} (hT : Top j ops done saved points used) (hu : used ≤ 20) (keep : Int) (k0 : -9223372036854775808 ≤ keep) (k1 : keep < 9223372036854775808) :
    Spec Try.prog 17 [.agg j.cells, .agg j.l.dev.cells, .i .i64 saved, .i .i64 keep] [] (.t (.b true) true) := by
  have hjf := ok_fineJ hT.ok
  have sD : j.l.dev.small := hjf.2.1.1
  have hdu := hT.du
  have hsd := hT.sd
  rcases top_crash hT hu keep with ⟨a, b⟩ | ⟨c, r, dv, w, xs, H⟩
  · exact s_crashed_arg j hjf j.l.dev sD saved keep k0 k1 a b
  · exact s_crashed_ok j hjf j.l.dev sD saved keep _ H.k0 H.k1 c r dv w xs H.ex H.xl (by omega) (by omega) H.cr H.rc rfl H.ed H.op H.rec' H.next H.same H.sv H.fw H.sr H.rd H.rn
structure TpS where
  i : Nat
  j : Jr
  ops : List DOp
  v : Nat
  done : Nat
  saved : Nat
  points : Nat
  nil : Bool
  st : List DOp
def tpF (l : List (Int × Int)) (keep : Int) (p : TpS) : S := ⟨tmL [(0, .t (.sl (mvT l)) false), (1, .t (.i .i64 keep) true), (5, .ptr 0 0), (6, .t (.i .i64 0) true), (7, bif p.nil then .nl else .row 1 p.v 0 p.ops.length), (8, .t (.i .i64 p.done) true), (9, .t (.i .i64 p.saved) true), (10, .t (.i .i64 p.points) true), (11, .t (.i .i64 p.i) true)], [jrW p.j true, .row p.v 3 (opsT p.st) true]⟩
theorem law_TopDevice (l : List (Int × Int)) (hl : l.length ≤ 140737488355328) (hlr : ∀ m ∈ l, i64B m.1 ∧ i64B m.2) (keep : Int) (k0 : -9223372036854775808 ≤ keep) (k1 : keep < 9223372036854775808) :
    Spec Try.prog 3 [.sl (mvT l), .i .i64 keep] [] (.t (.b true) true) := by
  refine spec_k (hold mixed) b_top_TopDevice [(.b true, true)] ?_
  have gA := s_top_alive06
  have gN := s_journal_New 2000
  obtain ⟨t1, t2⟩ := top_start
  rw [t1] at gN
  have n8 := (ok_fineJ t2.ok).2.2.1
  have tn := clF_take (l := true) n8
  simp -implicitDefEqProofs only [go_sem, seval, sk, mvT_length]
  refine wcond_mk (fun hh => ?_) (fun hh => ?_)
  · simp -implicitDefEqProofs only [go_sem, seval, sk]
  have h20 : l.length ≤ 20 := by have := of_decide_eq_false hh; omega
  simp -implicitDefEqProofs only [go_sem, seval, sk]
  first | refine call_k gA ?_ | refine call_d gA ?_
  simp -implicitDefEqProofs only [go_sem, seval, sk]
  first | refine call_k gN ?_ (by simp -implicitDefEqProofs only [go_sem, seval, sk]) (by simp -implicitDefEqProofs only [go_sem, seval, sk, opJ]) | refine call_d gN ?_ (by simp -implicitDefEqProofs only [go_sem, seval, sk]) (by simp -implicitDefEqProofs only [go_sem, seval, sk, opJ])
  simp -implicitDefEqProofs only [go_sem, seval, sk, opJ, Jr.cells, clF_map, n8]
  refine ⟨clF_one _ _, ?_⟩
  refine loop_l (α := TpS) (tpF l keep) (fun p => l.length - p.i) (fun p => p.i ≤ l.length ∧ Top p.j p.ops p.done p.saved p.points p.i ∧ (p.nil = false → p.st = p.ops) ∧ (p.nil = true → p.ops = [])) ⟨0, T0, [], 0, 0, 0, 0, false, []⟩ (by simp -implicitDefEqProofs only [go_sem, seval, sk, tpF, opsT_nil, List.length_nil, cond_false] <;> rfl) ⟨Nat.zero_le _, t2, fun _ => rfl, nofun⟩ ?_
  clear gA gN t1 t2 n8 tn
  rintro ⟨i, j, ops, v, done, saved, points, nil, st⟩ ⟨hi, hT, hn0, hn1⟩ R hR
  simp only at hi hT hn0 hn1
  have hjf := ok_fineJ hT.ok
  have n8 := hjf.2.2.1
  have tn := clF_take (l := true) n8
  have un := clF_drop (l := true) n8
  have hdu := hT.du
  have hpu := hT.pu
  have hsd := hT.sd
  have hol := hT.ol
  clear hl
  cases nil with
  | true =>
    obtain rfl := hn1 rfl
    clear hn0 hn1
    simp -implicitDefEqProofs only [go_sem, seval, sk, tpF, cond_true]
    refine wcond_mk (fun hh => ?_) (fun hh => ?_)
    · have hi' : i < l.length := by have := of_decide_eq_true hh; omega
      have hii : ((i : Int) < (l.length : Int)) = True := eq_true (by omega)
      have e4 : IntKind.i64.wrap ((i : Int) + 1) = ((i + 1 : Nat) : Int) := by rw [wrap_i64_id (by omega) (by omega)]; omega
      have mr := hlr _ (List.getElem_mem hi')
      simp -implicitDefEqProofs only [go_sem, seval, sk, n8, tn, mvT_get hi', hii]
      by_cases c7 : 7 < l[i].1
      · by_cases c2 : l[i].1.tmod 2 = 0
        · have c2' : (l[i].1.tmod 2 == 0) = true := by simp [c2]
          obtain ⟨j2, q1, q2⟩ := top_sync hT
          have yF := s_journal_Sync j hjf
          rw [q1] at yF
          have j2f := ok_fineJ q2.ok
          have m8 := j2f.2.2.1
          have t2 := clF_take (l := true) m8
          simp -implicitDefEqProofs only [go_sem, seval, sk, n8, eq_true c7, mvT_get hi', hii, c2, c2', tn]
          first | refine call_k yF ?_ (by simp -implicitDefEqProofs only [go_sem, seval, sk, Jr.cells]) (by simp -implicitDefEqProofs only [go_sem, seval, sk, opJ]) | refine call_d yF ?_ (by simp -implicitDefEqProofs only [go_sem, seval, sk, Jr.cells]) (by simp -implicitDefEqProofs only [go_sem, seval, sk, opJ])
          simp -implicitDefEqProofs only [go_sem, seval, sk, opJ, Jr.cells, clF_map, m8, un, n8, List.append_nil, e4]
          refine ⟨clF_one _ _, ⟨okEs_op ⟨2, [], 0⟩, by unfold room; omega⟩, hR ⟨i + 1, j2, [⟨2, [], 0⟩], v + 1, done, saved, points, false, [⟨2, [], 0⟩]⟩ _ ?_ ⟨by simp only; omega, q2, fun _ => rfl, nofun⟩ (by simp only; omega)⟩
          simp -implicitDefEqProofs only [go_sem, seval, sk, tpF, opsT_one, DOp.cells, bT_nil8, List.length_append, List.length_cons, List.length_nil, cond_false]
        · have c2' : (l[i].1.tmod 2 == 0) = false := by simp [c2]
          obtain ⟨j2, q1, q2⟩ := top_save hT (by omega)
          have yF := s_journal_Save j hjf
          rw [q1] at yF
          have j2f := ok_fineJ q2.ok
          have m8 := j2f.2.2.1
          have t2 := clF_take (l := true) m8
          have e5 : IntKind.i64.wrap ((points : Int) + 1) = ((points + 1 : Nat) : Int) := by rw [wrap_i64_id (by omega) (by omega)]; omega
          simp -implicitDefEqProofs only [go_sem, seval, sk, n8, eq_true c7, mvT_get hi', hii, c2', tn]
          first | refine call_k yF ?_ (by simp -implicitDefEqProofs only [go_sem, seval, sk, Jr.cells]) (by simp -implicitDefEqProofs only [go_sem, seval, sk, opJ]) | refine call_d yF ?_ (by simp -implicitDefEqProofs only [go_sem, seval, sk, Jr.cells]) (by simp -implicitDefEqProofs only [go_sem, seval, sk, opJ])
          simp -implicitDefEqProofs only [go_sem, seval, sk, opJ, Jr.cells, clF_map, m8, un, n8, List.append_nil, e4, e5]
          refine ⟨clF_one _ _, hR ⟨i + 1, j2, [], v, done, done, points + 1, true, st⟩ _ ?_ ⟨by simp only; omega, q2, nofun, fun _ => rfl⟩ (by simp only; omega)⟩
          simp -implicitDefEqProofs only [go_sem, seval, sk, tpF, cond_true]
      · have hV := s_ref06_Valid l[i]
        simp -implicitDefEqProofs only [go_sem, seval, sk, n8, eq_false c7, mvT_get hi', hii, tn]
        first | refine call_k hV ?_ | refine call_d hV ?_
        cases hm : mOK l[i] with
        | false =>
          simp -implicitDefEqProofs only [go_sem, seval, sk, n8, tn, e4, un, List.append_nil]
          refine hR ⟨i + 1, j, [], v, done, saved, points, true, st⟩ _ ?_ ⟨by simp only; omega, top_more hT, nofun, fun _ => rfl⟩ (by simp only; omega)
          simp -implicitDefEqProofs only [go_sem, seval, sk, tpF, cond_true]
        | true =>
          obtain ⟨j2, q1, q2⟩ := top_do hT (by omega) hm
          have wF := s_ref06_Written l[i] mr.2.1 mr.2.2
          have hwl := wrB_len l[i]
          have hrok : (Rec.mk (done : Int) (wrB l[i])).ok = true := by
            rw [Rec.ok_iff]
            exact ⟨by show (0 : Int) ≤ done; omega, by show (done : Int) ≤ _; omega, by show (wrB l[i]).length ≤ _; omega⟩
          have eF := s_frame_Encode_ok ⟨done, wrB l[i]⟩ hrok
          have sF := s_top_summed06 (headL ⟨done, wrB l[i]⟩) (wrB l[i]) rfl (by omega)
          change Spec _ _ [.sl (bT (bytesL ⟨done, wrB l[i]⟩))] _ _ at sF
          have hbl : (bytesL ⟨(done : Int), wrB l[i]⟩).length = 21 := by rw [bytesL_length]; simp [wrB_len]
          have dF := s_journal_Do j hjf l[i] mr.2.1 mr.2.2
          rw [q1] at dF
          have j2f := ok_fineJ q2.ok
          have m8 := j2f.2.2.1
          have t2 := clF_take (l := true) m8
          have tw : List.take 9 (bT (wrB l[i])) = bT (wrB l[i]) := List.take_of_length_le (by rw [bT_length]; omega)
          simp -implicitDefEqProofs only [go_sem, seval, sk, n8, mvT_get hi', hii, tn]
          first | refine call_k wF ?_ | refine call_d wF ?_
          simp -implicitDefEqProofs only [go_sem, seval, sk]
          first | refine call_k eF ?_ (by simp -implicitDefEqProofs only [go_sem, seval, sk, Rec.cells, tw]; omega) | refine call_d eF ?_ (by simp -implicitDefEqProofs only [go_sem, seval, sk, Rec.cells, tw]; omega)
          simp -implicitDefEqProofs only [go_sem, seval, sk]
          first | refine call_k sF ?_ (by simp -implicitDefEqProofs only [go_sem, seval, sk, bT_take_self]) | refine call_d sF ?_ (by simp -implicitDefEqProofs only [go_sem, seval, sk, bT_take_self])
          simp -implicitDefEqProofs only [go_sem, seval, sk, n8, mvT_get hi', hii, tn]
          refine ⟨⟨okEs_op ⟨1, bytesL ⟨done, wrB l[i]⟩, 0⟩, by unfold room; omega⟩, ?_⟩
          first | refine call_k dF ?_ (by simp -implicitDefEqProofs only [go_sem, seval, sk, Jr.cells, mT]) (by simp -implicitDefEqProofs only [go_sem, seval, sk, opJ3]) | refine call_d dF ?_ (by simp -implicitDefEqProofs only [go_sem, seval, sk, Jr.cells, mT]) (by simp -implicitDefEqProofs only [go_sem, seval, sk, opJ3])
          have e6 : IntKind.i64.wrap ((done : Int) + 1) = ((done + 1 : Nat) : Int) := by rw [wrap_i64_id (by omega) (by omega)]; omega
          simp -implicitDefEqProofs only [go_sem, seval, sk, opJ3, Jr.cells, clF_map, m8, un, n8, List.append_nil, e4, e6]
          refine ⟨clF_one _ _, hR ⟨i + 1, j2, [⟨1, bytesL ⟨done, wrB l[i]⟩, 0⟩], v + 1, done + 1, saved, points, false, [⟨1, bytesL ⟨done, wrB l[i]⟩, 0⟩]⟩ _ ?_ ⟨by simp only; omega, q2, fun _ => rfl, nofun⟩ (by simp only; omega)⟩
          simp -implicitDefEqProofs only [go_sem, seval, sk, tpF, opsT_one, DOp.cells, List.length_append, List.length_cons, List.length_nil, cond_false]
    · have hi' : i = l.length := by have := of_decide_eq_false hh; omega
      subst hi'
      simp -implicitDefEqProofs only [go_sem, seval, sk]
      have rF := s_disk_Run D0 [] ⟨Nat.zero_le _, Nat.zero_le _⟩ hT.fin (by omega)
      rw [top_run hT (by omega)] at rF
      have sD : j.l.dev.small := hjf.2.1.1
      have mF := s_ref01_Same j.l.dev j.l.dev sD sD
      rw [sameD_self] at mF
      have lF := s_slots_Load j.s hjf.1
      obtain ⟨lp0, lp1⟩ := top_load hT
      have gC := s_top_crashed hT (by omega) keep k0 k1
      have hF := hT.first
      have hN := hT.next
      generalize loadS j.s = q at *
      obtain ⟨qa, qb, qe⟩ := q
      simp only at lp0 lp1
      first | refine call_k rF ?_ (by simp -implicitDefEqProofs only [go_sem, seval, sk, D0, Dev.cells, bT_nil8, opsT_nil]) (by simp -implicitDefEqProofs only [go_sem, seval, sk, run3]) | refine call_d rF ?_ (by simp -implicitDefEqProofs only [go_sem, seval, sk, D0, Dev.cells, bT_nil8, opsT_nil]) (by simp -implicitDefEqProofs only [go_sem, seval, sk, run3])
      simp -implicitDefEqProofs only [go_sem, seval, sk, run3, Dev.cells]
      first | refine call_k mF ?_ (by simp -implicitDefEqProofs only [go_sem, seval, sk, Dev.cells]) | refine call_d mF ?_ (by simp -implicitDefEqProofs only [go_sem, seval, sk, Dev.cells])
      simp -implicitDefEqProofs only [go_sem, seval, sk, hF, hN, bne_self_eq_false]
      first | refine call_k lF ?_ (by simp -implicitDefEqProofs only [go_sem, seval, sk, Slt.cells]) (by simp -implicitDefEqProofs only [go_sem, seval, sk, opL]) | refine call_d lF ?_ (by simp -implicitDefEqProofs only [go_sem, seval, sk, Slt.cells]) (by simp -implicitDefEqProofs only [go_sem, seval, sk, opL])
      by_cases hp : points = 0
      · have he := lp0 hp
        subst hp he
        simp -implicitDefEqProofs only [go_sem, seval, sk, opL, n8, tn]
        first | refine call_k gC ?_ (by simp -implicitDefEqProofs only [go_sem, seval, sk, Jr.cells, Dev.cells, hF, hN]) | refine call_d gC ?_ (by simp -implicitDefEqProofs only [go_sem, seval, sk, Jr.cells, Dev.cells, hF, hN])
        simp -implicitDefEqProofs only [go_sem, seval, sk]
      · obtain ⟨ha, he⟩ := lp1 (by omega)
        subst ha he
        have hpe : ((points : Int) == 0) = false := by rw [beq_eq_false_iff_ne]; omega
        have hpg : decide (0 < (points : Int)) = true := decide_eq_true (by omega)
        simp -implicitDefEqProofs only [go_sem, seval, sk, opL, hpe, hpg, bne_self_eq_false, n8, tn]
        first | refine call_k gC ?_ (by simp -implicitDefEqProofs only [go_sem, seval, sk, Jr.cells, Dev.cells, hF, hN]) | refine call_d gC ?_ (by simp -implicitDefEqProofs only [go_sem, seval, sk, Jr.cells, Dev.cells, hF, hN])
        simp -implicitDefEqProofs only [go_sem, seval, sk]
  | false =>
    obtain rfl := hn0 rfl
    clear hn0 hn1
    simp -implicitDefEqProofs only [go_sem, seval, sk, tpF, cond_false]
    refine wcond_mk (fun hh => ?_) (fun hh => ?_)
    · have hi' : i < l.length := by have := of_decide_eq_true hh; omega
      have hii : ((i : Int) < (l.length : Int)) = True := eq_true (by omega)
      have e4 : IntKind.i64.wrap ((i : Int) + 1) = ((i + 1 : Nat) : Int) := by rw [wrap_i64_id (by omega) (by omega)]; omega
      have mr := hlr _ (List.getElem_mem hi')
      simp -implicitDefEqProofs only [go_sem, seval, sk, n8, tn, mvT_get hi', hii]
      by_cases c7 : 7 < l[i].1
      · by_cases c2 : l[i].1.tmod 2 = 0
        · have c2' : (l[i].1.tmod 2 == 0) = true := by simp [c2]
          obtain ⟨j2, q1, q2⟩ := top_sync hT
          have yF := s_journal_Sync j hjf
          rw [q1] at yF
          have j2f := ok_fineJ q2.ok
          have m8 := j2f.2.2.1
          have t2 := clF_take (l := true) m8
          simp -implicitDefEqProofs only [go_sem, seval, sk, n8, eq_true c7, mvT_get hi', hii, c2, c2', tn]
          first | refine call_k yF ?_ (by simp -implicitDefEqProofs only [go_sem, seval, sk, Jr.cells]) (by simp -implicitDefEqProofs only [go_sem, seval, sk, opJ]) | refine call_d yF ?_ (by simp -implicitDefEqProofs only [go_sem, seval, sk, Jr.cells]) (by simp -implicitDefEqProofs only [go_sem, seval, sk, opJ])
          simp -implicitDefEqProofs only [go_sem, seval, sk, opJ, Jr.cells, clF_map, m8, un, n8, List.append_nil, e4]
          refine ⟨clF_one _ _, ⟨okEs_op ⟨2, [], 0⟩, by rw [opsT_length]; exact Nat.le_refl _, by unfold room; omega⟩, hR ⟨i + 1, j2, st ++ [⟨2, [], 0⟩], v + 1, done, saved, points, false, st ++ [⟨2, [], 0⟩]⟩ _ ?_ ⟨by simp only; omega, q2, fun _ => rfl, nofun⟩ (by simp only; omega)⟩
          simp -implicitDefEqProofs only [go_sem, seval, sk, tpF, opsT_take, opsT_snoc, DOp.cells, bT_nil8, List.length_append, List.length_cons, List.length_nil, cond_false]
        · have c2' : (l[i].1.tmod 2 == 0) = false := by simp [c2]
          obtain ⟨j2, q1, q2⟩ := top_save hT (by omega)
          have yF := s_journal_Save j hjf
          rw [q1] at yF
          have j2f := ok_fineJ q2.ok
          have m8 := j2f.2.2.1
          have t2 := clF_take (l := true) m8
          have e5 : IntKind.i64.wrap ((points : Int) + 1) = ((points + 1 : Nat) : Int) := by rw [wrap_i64_id (by omega) (by omega)]; omega
          simp -implicitDefEqProofs only [go_sem, seval, sk, n8, eq_true c7, mvT_get hi', hii, c2', tn]
          first | refine call_k yF ?_ (by simp -implicitDefEqProofs only [go_sem, seval, sk, Jr.cells]) (by simp -implicitDefEqProofs only [go_sem, seval, sk, opJ]) | refine call_d yF ?_ (by simp -implicitDefEqProofs only [go_sem, seval, sk, Jr.cells]) (by simp -implicitDefEqProofs only [go_sem, seval, sk, opJ])
          simp -implicitDefEqProofs only [go_sem, seval, sk, opJ, Jr.cells, clF_map, m8, un, n8, List.append_nil, e4, e5]
          refine ⟨clF_one _ _, hR ⟨i + 1, j2, [], v, done, done, points + 1, true, st⟩ _ ?_ ⟨by simp only; omega, q2, nofun, fun _ => rfl⟩ (by simp only; omega)⟩
          simp -implicitDefEqProofs only [go_sem, seval, sk, tpF, cond_true]
      · have hV := s_ref06_Valid l[i]
        simp -implicitDefEqProofs only [go_sem, seval, sk, n8, eq_false c7, mvT_get hi', hii, tn]
        first | refine call_k hV ?_ | refine call_d hV ?_
        cases hm : mOK l[i] with
        | false =>
          simp -implicitDefEqProofs only [go_sem, seval, sk, n8, tn, e4, un, List.append_nil]
          refine hR ⟨i + 1, j, st, v, done, saved, points, false, st⟩ _ ?_ ⟨by simp only; omega, top_more hT, fun _ => rfl, nofun⟩ (by simp only; omega)
          simp -implicitDefEqProofs only [go_sem, seval, sk, tpF, cond_false]
        | true =>
          obtain ⟨j2, q1, q2⟩ := top_do hT (by omega) hm
          have wF := s_ref06_Written l[i] mr.2.1 mr.2.2
          have hwl := wrB_len l[i]
          have hrok : (Rec.mk (done : Int) (wrB l[i])).ok = true := by
            rw [Rec.ok_iff]
            exact ⟨by show (0 : Int) ≤ done; omega, by show (done : Int) ≤ _; omega, by show (wrB l[i]).length ≤ _; omega⟩
          have eF := s_frame_Encode_ok ⟨done, wrB l[i]⟩ hrok
          have sF := s_top_summed06 (headL ⟨done, wrB l[i]⟩) (wrB l[i]) rfl (by omega)
          change Spec _ _ [.sl (bT (bytesL ⟨done, wrB l[i]⟩))] _ _ at sF
          have hbl : (bytesL ⟨(done : Int), wrB l[i]⟩).length = 21 := by rw [bytesL_length]; simp [wrB_len]
          have dF := s_journal_Do j hjf l[i] mr.2.1 mr.2.2
          rw [q1] at dF
          have j2f := ok_fineJ q2.ok
          have m8 := j2f.2.2.1
          have t2 := clF_take (l := true) m8
          have tw : List.take 9 (bT (wrB l[i])) = bT (wrB l[i]) := List.take_of_length_le (by rw [bT_length]; omega)
          simp -implicitDefEqProofs only [go_sem, seval, sk, n8, mvT_get hi', hii, tn]
          first | refine call_k wF ?_ | refine call_d wF ?_
          simp -implicitDefEqProofs only [go_sem, seval, sk]
          first | refine call_k eF ?_ (by simp -implicitDefEqProofs only [go_sem, seval, sk, Rec.cells, tw]; omega) | refine call_d eF ?_ (by simp -implicitDefEqProofs only [go_sem, seval, sk, Rec.cells, tw]; omega)
          simp -implicitDefEqProofs only [go_sem, seval, sk]
          first | refine call_k sF ?_ (by simp -implicitDefEqProofs only [go_sem, seval, sk, bT_take_self]) | refine call_d sF ?_ (by simp -implicitDefEqProofs only [go_sem, seval, sk, bT_take_self])
          simp -implicitDefEqProofs only [go_sem, seval, sk, n8, mvT_get hi', hii, tn]
          refine ⟨⟨okEs_op ⟨1, bytesL ⟨done, wrB l[i]⟩, 0⟩, by rw [opsT_length]; exact Nat.le_refl _, by unfold room; omega⟩, ?_⟩
          first | refine call_k dF ?_ (by simp -implicitDefEqProofs only [go_sem, seval, sk, Jr.cells, mT]) (by simp -implicitDefEqProofs only [go_sem, seval, sk, opJ3]) | refine call_d dF ?_ (by simp -implicitDefEqProofs only [go_sem, seval, sk, Jr.cells, mT]) (by simp -implicitDefEqProofs only [go_sem, seval, sk, opJ3])
          have e6 : IntKind.i64.wrap ((done : Int) + 1) = ((done + 1 : Nat) : Int) := by rw [wrap_i64_id (by omega) (by omega)]; omega
          simp -implicitDefEqProofs only [go_sem, seval, sk, opJ3, Jr.cells, clF_map, m8, un, n8, List.append_nil, e4, e6]
          refine ⟨clF_one _ _, hR ⟨i + 1, j2, st ++ [⟨1, bytesL ⟨done, wrB l[i]⟩, 0⟩], v + 1, done + 1, saved, points, false, st ++ [⟨1, bytesL ⟨done, wrB l[i]⟩, 0⟩]⟩ _ ?_ ⟨by simp only; omega, q2, fun _ => rfl, nofun⟩ (by simp only; omega)⟩
          simp -implicitDefEqProofs only [go_sem, seval, sk, tpF, opsT_take, opsT_snoc, DOp.cells, List.length_append, List.length_cons, List.length_nil, cond_false]
    · have hi' : i = l.length := by have := of_decide_eq_false hh; omega
      subst hi'
      simp -implicitDefEqProofs only [go_sem, seval, sk]
      have rF := s_disk_Run D0 st ⟨Nat.zero_le _, Nat.zero_le _⟩ hT.fin (by omega)
      rw [top_run hT (by omega)] at rF
      have sD : j.l.dev.small := hjf.2.1.1
      have mF := s_ref01_Same j.l.dev j.l.dev sD sD
      rw [sameD_self] at mF
      have lF := s_slots_Load j.s hjf.1
      obtain ⟨lp0, lp1⟩ := top_load hT
      have gC := s_top_crashed hT (by omega) keep k0 k1
      have hF := hT.first
      have hN := hT.next
      generalize loadS j.s = q at *
      obtain ⟨qa, qb, qe⟩ := q
      simp only at lp0 lp1
      first | refine call_k rF ?_ (by simp -implicitDefEqProofs only [go_sem, seval, sk, D0, Dev.cells, bT_nil8, opsT_take]; rw [opsT_length]; exact Nat.le_refl _) (by simp -implicitDefEqProofs only [go_sem, seval, sk, run3]) | refine call_d rF ?_ (by simp -implicitDefEqProofs only [go_sem, seval, sk, D0, Dev.cells, bT_nil8, opsT_take]; rw [opsT_length]; exact Nat.le_refl _) (by simp -implicitDefEqProofs only [go_sem, seval, sk, run3])
      simp -implicitDefEqProofs only [go_sem, seval, sk, run3, Dev.cells]
      first | refine call_k mF ?_ (by simp -implicitDefEqProofs only [go_sem, seval, sk, Dev.cells]) | refine call_d mF ?_ (by simp -implicitDefEqProofs only [go_sem, seval, sk, Dev.cells])
      simp -implicitDefEqProofs only [go_sem, seval, sk, hF, hN, bne_self_eq_false]
      first | refine call_k lF ?_ (by simp -implicitDefEqProofs only [go_sem, seval, sk, Slt.cells]) (by simp -implicitDefEqProofs only [go_sem, seval, sk, opL]) | refine call_d lF ?_ (by simp -implicitDefEqProofs only [go_sem, seval, sk, Slt.cells]) (by simp -implicitDefEqProofs only [go_sem, seval, sk, opL])
      by_cases hp : points = 0
      · have he := lp0 hp
        subst hp he
        simp -implicitDefEqProofs only [go_sem, seval, sk, opL, n8, tn]
        first | refine call_k gC ?_ (by simp -implicitDefEqProofs only [go_sem, seval, sk, Jr.cells, Dev.cells, hF, hN]) | refine call_d gC ?_ (by simp -implicitDefEqProofs only [go_sem, seval, sk, Jr.cells, Dev.cells, hF, hN])
        simp -implicitDefEqProofs only [go_sem, seval, sk]
      · obtain ⟨ha, he⟩ := lp1 (by omega)
        subst ha he
        have hpe : ((points : Int) == 0) = false := by rw [beq_eq_false_iff_ne]; omega
        have hpg : decide (0 < (points : Int)) = true := decide_eq_true (by omega)
        simp -implicitDefEqProofs only [go_sem, seval, sk, opL, hpe, hpg, bne_self_eq_false, n8, tn]
        first | refine call_k gC ?_ (by simp -implicitDefEqProofs only [go_sem, seval, sk, Jr.cells, Dev.cells, hF, hN]) | refine call_d gC ?_ (by simp -implicitDefEqProofs only [go_sem, seval, sk, Jr.cells, Dev.cells, hF, hN])
        simp -implicitDefEqProofs only [go_sem, seval, sk]
end Go.Proofs.Ytlfpafdkegnkoaa.Pm
