/- Texts of this proof in one file: PmWh, PmWi, PmWj, PmWk. No law of Go's is stated here. -/
import Derived.Test.YtdpnjhooehadmaaPmMh
import Derived.Test.YtdpnjhooehadmaaPmGs
import Derived.Test.YtdpnjhooehadmaaPmFqe
/-! PmWh -/
set_option linter.all false
set_option maxRecDepth 100000
set_option maxHeartbeats 2000000
namespace Go.Proofs.Ytdpnjhooehadmaa.Pm
open Go Go.RowKit

theorem dev_up {l : WLog} (h : l.ok) : l.dev.upE = 0 := upE_of h.1 h.2.1
def WLog.crash (l : WLog) (n : Int) : Dev × Int := if l.ok then l.dev.crash n else (zeroD, 8)
theorem s_wal_Crash (l : WLog) (hl : l.fine) (n : Int) (h0 : -9223372036854775808 ≤ n) (h1 : n < 9223372036854775808) : Spec Try.prog 34 [.agg l.cells, .i .i64 n] [] (resV ((opR (l.crash n)).map AV.ofT)) := by
  refine spec_k (hold mixed) b_wal_Crash (opR (l.crash n)) ?_
  by_cases h : l.ok
  · have ev : l.crash n = l.dev.crash n := if_pos h
    rw [ev]
    simp -implicitDefEqProofs only [go_sem, reduceIte, Nat.reduceAdd, Nat.reduceSub, Nat.reduceMul, Nat.reduceLT, Nat.reduceLeDiff, Nat.reduceEqDiff, Nat.reduceBEq, Int.reduceLE, Int.reduceLT, Int.reduceToNat, Int.reduceMul, Int.reduceAdd, Int.reduceSub, Int.reduceNeg, Int.reduceEq, reduceCtorEq, Nat.reduceMod, Int.reduceBNe, Int.reduceBEq, Int.reduceGT, Int.reduceGE, Int.reduceNe, Int.cast_ofNat_Int, Int.natCast_zero, Int.natCast_one, bne_self_eq_false, gt_iff_lt, ge_iff_le, Int.lt_irrefl, Int.le_refl]
    refine call_k (s_wal_look_ok l hl h) ?_
    simp -implicitDefEqProofs only [go_sem, reduceIte, Nat.reduceAdd, Nat.reduceSub, Nat.reduceMul, Nat.reduceLT, Nat.reduceLeDiff, Nat.reduceEqDiff, Nat.reduceBEq, Int.reduceLE, Int.reduceLT, Int.reduceToNat, Int.reduceMul, Int.reduceAdd, Int.reduceSub, Int.reduceNeg, Int.reduceEq, reduceCtorEq, Nat.reduceMod, Int.reduceBNe, Int.reduceBEq, Int.reduceGT, Int.reduceGE, Int.reduceNe, Int.cast_ofNat_Int, Int.natCast_zero, Int.natCast_one, bne_self_eq_false, gt_iff_lt, ge_iff_le, Int.lt_irrefl, Int.le_refl, viewV]
    refine call_k (s_disk_Crash l.dev n hl.1 h0 h1) ?_
    simp -implicitDefEqProofs only [go_sem, reduceIte, Nat.reduceAdd, Nat.reduceSub, Nat.reduceMul, Nat.reduceLT, Nat.reduceLeDiff, Nat.reduceEqDiff, Nat.reduceBEq, Int.reduceLE, Int.reduceLT, Int.reduceToNat, Int.reduceMul, Int.reduceAdd, Int.reduceSub, Int.reduceNeg, Int.reduceEq, reduceCtorEq, Nat.reduceMod, Int.reduceBNe, Int.reduceBEq, Int.reduceGT, Int.reduceGE, Int.reduceNe, Int.cast_ofNat_Int, Int.natCast_zero, Int.natCast_one, bne_self_eq_false, gt_iff_lt, ge_iff_le, Int.lt_irrefl, Int.le_refl]
  · have ev : l.crash n = (zeroD, 8) := if_neg h
    rw [ev]
    simp -implicitDefEqProofs only [go_sem, reduceIte, Nat.reduceAdd, Nat.reduceSub, Nat.reduceMul, Nat.reduceLT, Nat.reduceLeDiff, Nat.reduceEqDiff, Nat.reduceBEq, Int.reduceLE, Int.reduceLT, Int.reduceToNat, Int.reduceMul, Int.reduceAdd, Int.reduceSub, Int.reduceNeg, Int.reduceEq, reduceCtorEq, Nat.reduceMod, Int.reduceBNe, Int.reduceBEq, Int.reduceGT, Int.reduceGE, Int.reduceNe, Int.cast_ofNat_Int, Int.natCast_zero, Int.natCast_one, bne_self_eq_false, gt_iff_lt, ge_iff_le, Int.lt_irrefl, Int.le_refl]
    refine call_k (s_wal_look_bad l hl h) ?_
    simp -implicitDefEqProofs only [go_sem, reduceIte, Nat.reduceAdd, Nat.reduceSub, Nat.reduceMul, Nat.reduceLT, Nat.reduceLeDiff, Nat.reduceEqDiff, Nat.reduceBEq, Int.reduceLE, Int.reduceLT, Int.reduceToNat, Int.reduceMul, Int.reduceAdd, Int.reduceSub, Int.reduceNeg, Int.reduceEq, reduceCtorEq, Nat.reduceMod, Int.reduceBNe, Int.reduceBEq, Int.reduceGT, Int.reduceGE, Int.reduceNe, Int.cast_ofNat_Int, Int.natCast_zero, Int.natCast_one, bne_self_eq_false, gt_iff_lt, ge_iff_le, Int.lt_irrefl, Int.le_refl, zeroV, zeroD, bT, List.map]
end Go.Proofs.Ytdpnjhooehadmaa.Pm

/-! PmWi -/
set_option linter.all false
set_option maxRecDepth 100000
set_option maxHeartbeats 2000000
namespace Go.Proofs.Ytdpnjhooehadmaa.Pm
open Go Go.RowKit

def zeroW : WLog := ⟨zeroD, 0, 0⟩
theorem zeroW_cells : zeroW.cells = [.sl [], .sl [], .i .i64 0, .b false, .i .i64 0, .i .i64 0] := rfl
def opW (p : WLog × Int) : List (T × Bool) := [(.agg p.1.cells, true), (.i .i64 p.2, true)]
theorem s_wal_with (d : Dev) (a b : Int) : SpecU Try.prog 89 7 [.agg d.cells, .i .i64 a, .i .i64 b] (.agg (WLog.cells ⟨d, a, b⟩)) := by
  refine spec_ku (hold mixed) b_wal_view_with (.agg (WLog.cells ⟨d, a, b⟩)) ?_
  simp -implicitDefEqProofs only [go_sem, reduceIte, Nat.reduceAdd, Nat.reduceSub, Nat.reduceMul, Nat.reduceLT, Nat.reduceLeDiff, Nat.reduceEqDiff, Nat.reduceBEq, Int.reduceLE, Int.reduceLT, Int.reduceToNat, Int.reduceMul, Int.reduceAdd, Int.reduceSub, Int.reduceNeg, Int.reduceEq, reduceCtorEq, Nat.reduceMod, s0u, s0, List.replicate, Dev.cells, WLog.cells]
  try rfl
/-- The device that opening leaves. -/
def cutD (d : Dev) (u : Nat) : Dev := ⟨d.all.take u, [], d.cap, false⟩
theorem open_dev {e : Dev} (hc : e.check = 0) (hd : e.down = false) {u : Nat} (hu : u ≤ e.all.length) : (e.trunc (u : Int)).1.small ∧ ((e.trunc (u : Int)).1.sync).1 = cutD e u := by
  have hup := upE_of hc hd
  have e1 : e.trunc (u : Int) = (⟨e.syn.take u, e.tail.take (u - e.syn.length), e.cap, false⟩, 0) := by
    simp [Dev.trunc, orE, hup, hu]
  refine ⟨trunc_small _ _, ?_⟩
  have hck : (e.trunc (u : Int)).1.check = 0 := trunc_check (by rw [e1])
  rw [e1] at hck ⊢
  have hup2 := upE_of hck rfl
  simp only [Dev.sync, orE, hup2, if_true]
  simp only [cutD, Dev.all, List.take_append]
/-- The records of a device, when there are some that reach up to a number. -/
def Dev.last (d : Dev) (n : Int) : Option (Rec × Rec) := match scanL d.all with
  | [] => none
  | r :: rs => if n - 1 ≤ ((r :: rs).getLast (List.cons_ne_nil r rs)).num then some (r, (r :: rs).getLast (List.cons_ne_nil r rs)) else none
def Dev.used (d : Dev) : Nat := (catR (scanL d.all)).length
def openW (d : Dev) (n : Int) : WLog × Int := if d.check = 0 then (if 0 ≤ n ∧ n ≤ 1000000000 then (match d.last n with
  | some (r, s) => (⟨cutD d d.used, r.num, s.num + 1⟩, 0)
  | none => (⟨cutD d 0, n, n⟩, 0)) else (zeroW, 2)) else (zeroW, 8)
theorem used_le (d : Dev) : d.used ≤ d.all.length := by
  obtain ⟨q, hq⟩ := (scanL_ok d.all).bytes
  have := congrArg List.length hq
  rw [List.length_append] at this
  unfold Dev.used
  omega
theorem recs_last (r : Rec) (rs : List Rec) : (recsT (r :: rs))[rs.length]? = some ((r :: rs).getLast (List.cons_ne_nil r rs)).cells := by
  rw [recsT, List.getElem?_map, List.getLast_eq_getElem, List.getElem?_eq_getElem (by simp)]
  rfl
theorem openW_some {d : Dev} {n : Int} (hc : d.check = 0) (h0 : 0 ≤ n) (h1 : n ≤ 1000000000) {r : Rec} {rs : List Rec} (hs : scanL d.all = r :: rs) (hn : n - 1 ≤ ((r :: rs).getLast (List.cons_ne_nil r rs)).num) :
    openW d n = (⟨cutD d (catR (r :: rs)).length, r.num, ((r :: rs).getLast (List.cons_ne_nil r rs)).num + 1⟩, 0) := by
  have e1 : d.last n = some (r, (r :: rs).getLast (List.cons_ne_nil r rs)) := by
    unfold Dev.last
    rw [hs]
    exact if_pos hn
  unfold openW
  rw [if_pos hc, if_pos ⟨h0, h1⟩, e1]
  simp only [Dev.used, hs]
theorem openW_short {d : Dev} {n : Int} (hc : d.check = 0) (h0 : 0 ≤ n) (h1 : n ≤ 1000000000) {r : Rec} {rs : List Rec} (hs : scanL d.all = r :: rs) (hn : ¬ n - 1 ≤ ((r :: rs).getLast (List.cons_ne_nil r rs)).num) :
    openW d n = (⟨cutD d 0, n, n⟩, 0) := by
  have e1 : d.last n = none := by
    unfold Dev.last
    rw [hs]
    exact if_neg hn
  unfold openW
  rw [if_pos hc, if_pos ⟨h0, h1⟩, e1]
theorem openW_none {d : Dev} {n : Int} (hc : d.check = 0) (h0 : 0 ≤ n) (h1 : n ≤ 1000000000) (hs : scanL d.all = []) :
    openW d n = (⟨cutD d 0, n, n⟩, 0) := by
  have e1 : d.last n = none := by
    unfold Dev.last
    rw [hs]
  unfold openW
  rw [if_pos hc, if_pos ⟨h0, h1⟩, e1]
theorem s_wal_Open (d : Dev) (hd : d.small) (n : Int) (n0 : -9223372036854775808 ≤ n) (n1 : n ≤ 9223372036854775807) : Spec Try.prog 32 [.agg d.cells, .i .i64 n] [] (resV ((opW (openW d n)).map AV.ofT)) := by
  refine spec_k (hold mixed) b_wal_Open (opW (openW d n)) ?_
  have hc8 : d.check = 8 ∨ d.check = 0 := by unfold Dev.check; split <;> simp
  simp -implicitDefEqProofs only [go_sem, reduceIte, Nat.reduceAdd, Nat.reduceSub, Nat.reduceMul, Nat.reduceLT, Nat.reduceLeDiff, Nat.reduceEqDiff, Nat.reduceBEq, Int.reduceLE, Int.reduceLT, Int.reduceToNat, Int.reduceMul, Int.reduceAdd, Int.reduceSub, Int.reduceNeg, Int.reduceEq, reduceCtorEq, Nat.reduceMod]
  refine call_k (s_disk_Check d hd) ?_
  rcases hc8 with hc | hc
  · have ev : openW d n = (zeroW, 8) := by simp [openW, hc]
    rw [ev]
    simp -implicitDefEqProofs only [go_sem, reduceIte, Nat.reduceAdd, Nat.reduceSub, Nat.reduceMul, Nat.reduceLT, Nat.reduceLeDiff, Nat.reduceEqDiff, Nat.reduceBEq, Int.reduceLE, Int.reduceLT, Int.reduceToNat, Int.reduceMul, Int.reduceAdd, Int.reduceSub, Int.reduceNeg, Int.reduceEq, reduceCtorEq, Nat.reduceMod, Int.reduceBNe, Int.reduceBEq, Int.reduceGT, Int.reduceGE, Int.reduceNe, Int.cast_ofNat_Int, Int.natCast_zero, Int.natCast_one, bne_self_eq_false, gt_iff_lt, ge_iff_le, Int.lt_irrefl, Int.le_refl, hc, opW, zeroW_cells]
  by_cases h0 : n < 0
  · have ev : openW d n = (zeroW, 2) := by simp [openW, hc]; omega
    rw [ev]
    simp -implicitDefEqProofs only [go_sem, reduceIte, Nat.reduceAdd, Nat.reduceSub, Nat.reduceMul, Nat.reduceLT, Nat.reduceLeDiff, Nat.reduceEqDiff, Nat.reduceBEq, Int.reduceLE, Int.reduceLT, Int.reduceToNat, Int.reduceMul, Int.reduceAdd, Int.reduceSub, Int.reduceNeg, Int.reduceEq, reduceCtorEq, Nat.reduceMod, Int.reduceBNe, Int.reduceBEq, Int.reduceGT, Int.reduceGE, Int.reduceNe, Int.cast_ofNat_Int, Int.natCast_zero, Int.natCast_one, bne_self_eq_false, gt_iff_lt, ge_iff_le, Int.lt_irrefl, Int.le_refl, hc, h0, opW, zeroW_cells]
  by_cases h1 : 1000000000 < n
  · have ev : openW d n = (zeroW, 2) := by simp [openW, hc]; omega
    rw [ev]
    simp -implicitDefEqProofs only [go_sem, reduceIte, Nat.reduceAdd, Nat.reduceSub, Nat.reduceMul, Nat.reduceLT, Nat.reduceLeDiff, Nat.reduceEqDiff, Nat.reduceBEq, Int.reduceLE, Int.reduceLT, Int.reduceToNat, Int.reduceMul, Int.reduceAdd, Int.reduceSub, Int.reduceNeg, Int.reduceEq, reduceCtorEq, Nat.reduceMod, Int.reduceBNe, Int.reduceBEq, Int.reduceGT, Int.reduceGE, Int.reduceNe, Int.cast_ofNat_Int, Int.natCast_zero, Int.natCast_one, bne_self_eq_false, gt_iff_lt, ge_iff_le, Int.lt_irrefl, Int.le_refl, hc, h0, h1, opW, zeroW_cells]
  have ev : ∀ (e : Dev), e.all = d.all → e.cap = d.cap → e.check = 0 → e.down = false → e.small → ∀ u : Nat, u ≤ e.all.length → (e.trunc (u : Int)).1.small ∧ ((e.trunc (u : Int)).1.sync).1 = cutD d u := fun e e1 e2 e3 e4 e5 u hu => by
    obtain ⟨g1, g2⟩ := open_dev e3 e4 hu
    exact ⟨g1, by rw [g2]; simp only [cutD, e1, e2]⟩
  cases hdn : d.down with
  | true =>
    have es : d.start = (⟨d.syn, [], d.cap, false⟩, 0) := by simp [Dev.start, hc, hdn]
    have hce : d.start.1.check = 0 := start_check (by rw [es])
    have hde : d.start.1.down = false := by rw [es]
    have hall : d.start.1.all = d.all := by
      have ht : d.tail = [] := by
        unfold Dev.check Dev.bad at hc
        simp [hdn] at hc
        exact hc.2.2.2
      rw [es]; simp [Dev.all, ht]
    have hcap : d.start.1.cap = d.cap := by rw [es]
    have hse := start_small d
    simp -implicitDefEqProofs only [go_sem, reduceIte, Nat.reduceAdd, Nat.reduceSub, Nat.reduceMul, Nat.reduceLT, Nat.reduceLeDiff, Nat.reduceEqDiff, Nat.reduceBEq, Int.reduceLE, Int.reduceLT, Int.reduceToNat, Int.reduceMul, Int.reduceAdd, Int.reduceSub, Int.reduceNeg, Int.reduceEq, reduceCtorEq, Nat.reduceMod, Int.reduceBNe, Int.reduceBEq, Int.reduceGT, Int.reduceGE, Int.reduceNe, Int.cast_ofNat_Int, Int.natCast_zero, Int.natCast_one, bne_self_eq_false, gt_iff_lt, ge_iff_le, Int.lt_irrefl, Int.le_refl, hc, h0, h1, hdn]
    refine call_k (s_disk_Start d hd) ?_ (by simp -implicitDefEqProofs only [go_sem, reduceIte, Nat.reduceAdd, Nat.reduceSub, Nat.reduceMul, Nat.reduceLT, Nat.reduceLeDiff, Nat.reduceEqDiff, Nat.reduceBEq, Int.reduceLE, Int.reduceLT, Int.reduceToNat, Int.reduceMul, Int.reduceAdd, Int.reduceSub, Int.reduceNeg, Int.reduceEq, reduceCtorEq, Nat.reduceMod, hdn])
    generalize d.start = p at *
    obtain ⟨e, q⟩ := p
    simp -implicitDefEqProofs only [go_sem, reduceIte, Nat.reduceAdd, Nat.reduceSub, Nat.reduceMul, Nat.reduceLT, Nat.reduceLeDiff, Nat.reduceEqDiff, Nat.reduceBEq, Int.reduceLE, Int.reduceLT, Int.reduceToNat, Int.reduceMul, Int.reduceAdd, Int.reduceSub, Int.reduceNeg, Int.reduceEq, reduceCtorEq, Nat.reduceMod, Int.reduceBNe, Int.reduceBEq, Int.reduceGT, Int.reduceGE, Int.reduceNe, Int.cast_ofNat_Int, Int.natCast_zero, Int.natCast_one, bne_self_eq_false, gt_iff_lt, ge_iff_le, Int.lt_irrefl, Int.le_refl, opR]
    have hal : e.all.length ≤ 20000 := by
      have := e.ok_of hce
      simp only [Dev.all, List.length_append]
      omega
    refine call_k (s_wal_bytes e hse) ?_ (by simp -implicitDefEqProofs only [go_sem, reduceIte, Nat.reduceAdd, Nat.reduceSub, Nat.reduceMul, Nat.reduceLT, Nat.reduceLeDiff, Nat.reduceEqDiff, Nat.reduceBEq, Int.reduceLE, Int.reduceLT, Int.reduceToNat, Int.reduceMul, Int.reduceAdd, Int.reduceSub, Int.reduceNeg, Int.reduceEq, reduceCtorEq, Nat.reduceMod, hde])
    simp -implicitDefEqProofs only [go_sem, reduceIte, Nat.reduceAdd, Nat.reduceSub, Nat.reduceMul, Nat.reduceLT, Nat.reduceLeDiff, Nat.reduceEqDiff, Nat.reduceBEq, Int.reduceLE, Int.reduceLT, Int.reduceToNat, Int.reduceMul, Int.reduceAdd, Int.reduceSub, Int.reduceNeg, Int.reduceEq, reduceCtorEq, Nat.reduceMod, Int.reduceBNe, Int.reduceBEq, Int.reduceGT, Int.reduceGE, Int.reduceNe, Int.cast_ofNat_Int, Int.natCast_zero, Int.natCast_one, bne_self_eq_false, gt_iff_lt, ge_iff_le, Int.lt_irrefl, Int.le_refl]
    refine call_k (s_frame_Scan_ok e.all hal) ?_ (by simp -implicitDefEqProofs only [go_sem, reduceIte, Nat.reduceAdd, Nat.reduceSub, Nat.reduceMul, Nat.reduceLT, Nat.reduceLeDiff, Nat.reduceEqDiff, Nat.reduceBEq, Int.reduceLE, Int.reduceLT, Int.reduceToNat, Int.reduceMul, Int.reduceAdd, Int.reduceSub, Int.reduceNeg, Int.reduceEq, reduceCtorEq, Nat.reduceMod, bT_take_self])
    cases hs : scanL e.all with
    | nil =>
      have z0 : ((([] : List Rec).length : Nat) : Int) = 0 := rfl
      obtain ⟨g1, g2⟩ := ev e hall hcap hce hde hse 0 (Nat.zero_le _)
      rw [show ((0 : Nat) : Int) = 0 from rfl] at g1 g2
      rw [openW_none hc (by omega) (by omega) (by rw [← hall]; exact hs)]
      simp -implicitDefEqProofs only [go_sem, reduceIte, Nat.reduceAdd, Nat.reduceSub, Nat.reduceMul, Nat.reduceLT, Nat.reduceLeDiff, Nat.reduceEqDiff, Nat.reduceBEq, Int.reduceLE, Int.reduceLT, Int.reduceToNat, Int.reduceMul, Int.reduceAdd, Int.reduceSub, Int.reduceNeg, Int.reduceEq, reduceCtorEq, Nat.reduceMod, Int.reduceBNe, Int.reduceBEq, Int.reduceGT, Int.reduceGE, Int.reduceNe, Int.cast_ofNat_Int, Int.natCast_zero, Int.natCast_one, bne_self_eq_false, gt_iff_lt, ge_iff_le, Int.lt_irrefl, Int.le_refl, recsT_length, z0]
      refine call_k (s_disk_Truncate e 0 hse (by omega) (by omega)) ?_ (by simp -implicitDefEqProofs only [go_sem, reduceIte, Nat.reduceAdd, Nat.reduceSub, Nat.reduceMul, Nat.reduceLT, Nat.reduceLeDiff, Nat.reduceEqDiff, Nat.reduceBEq, Int.reduceLE, Int.reduceLT, Int.reduceToNat, Int.reduceMul, Int.reduceAdd, Int.reduceSub, Int.reduceNeg, Int.reduceEq, reduceCtorEq, Nat.reduceMod, hde])
      simp -implicitDefEqProofs only [go_sem, reduceIte, Nat.reduceAdd, Nat.reduceSub, Nat.reduceMul, Nat.reduceLT, Nat.reduceLeDiff, Nat.reduceEqDiff, Nat.reduceBEq, Int.reduceLE, Int.reduceLT, Int.reduceToNat, Int.reduceMul, Int.reduceAdd, Int.reduceSub, Int.reduceNeg, Int.reduceEq, reduceCtorEq, Nat.reduceMod, Int.reduceBNe, Int.reduceBEq, Int.reduceGT, Int.reduceGE, Int.reduceNe, Int.cast_ofNat_Int, Int.natCast_zero, Int.natCast_one, bne_self_eq_false, gt_iff_lt, ge_iff_le, Int.lt_irrefl, Int.le_refl, opR]
      refine call_k (s_disk_Sync _ g1) ?_
      simp -implicitDefEqProofs only [go_sem, reduceIte, Nat.reduceAdd, Nat.reduceSub, Nat.reduceMul, Nat.reduceLT, Nat.reduceLeDiff, Nat.reduceEqDiff, Nat.reduceBEq, Int.reduceLE, Int.reduceLT, Int.reduceToNat, Int.reduceMul, Int.reduceAdd, Int.reduceSub, Int.reduceNeg, Int.reduceEq, reduceCtorEq, Nat.reduceMod, Int.reduceBNe, Int.reduceBEq, Int.reduceGT, Int.reduceGE, Int.reduceNe, Int.cast_ofNat_Int, Int.natCast_zero, Int.natCast_one, bne_self_eq_false, gt_iff_lt, ge_iff_le, Int.lt_irrefl, Int.le_refl, opR, g2, opW, cutD, List.take_zero]
    | cons r rs =>
      have hsm := bytes_count (scanL_ok e.all)
      rw [hs, List.length_cons] at hsm
      have hlast : (r :: rs).getLast (List.cons_ne_nil r rs) ∈ scanL e.all := by rw [hs]; exact List.getLast_mem _
      have hlr := recs_last r rs
      have hus := used_le e
      have hfl := fun (h : n - 1 ≤ ((r :: rs).getLast (List.cons_ne_nil r rs)).num) => openW_some hc (by omega) (by omega) (by rw [← hall]; exact hs) h
      have hfs := fun (h : ¬ n - 1 ≤ ((r :: rs).getLast (List.cons_ne_nil r rs)).num) => openW_short hc (by omega) (by omega) (by rw [← hall]; exact hs) h
      unfold Dev.used at hus
      rw [hs] at hus
      generalize (r :: rs).getLast (List.cons_ne_nil r rs) = la at hlast hlr hfl hfs
      obtain ⟨q0, q1⟩ := rec_num hlast
      have z1 : (((r :: rs).length : Nat) : Int) > 0 := by rw [List.length_cons]; omega
      have z2 : (0 < (((rs.length + 1 : Nat)) : Int)) = True := eq_true (by omega)
      have w1 : IntKind.i64.wrap ((((rs.length + 1 : Nat)) : Int) - 1) = ((rs.length : Nat) : Int) := by rw [wrap_i64_id (by omega) (by omega)]; omega
      have w2 : IntKind.i64.wrap (n - 1) = n - 1 := wrap_i64_id (by omega) (by omega)
      have w3 : IntKind.i64.wrap (la.num + 1) = la.num + 1 := wrap_i64_id (by omega) (by omega)
      have z3 : (recsT (r :: rs))[0]? = some r.cells := rfl
      rw [List.length_cons] at z1
      by_cases hn : n - 1 ≤ la.num
      · obtain ⟨g1, g2⟩ := ev e hall hcap hce hde hse (catR (r :: rs)).length hus
        rw [hfl hn]
        simp -implicitDefEqProofs only [go_sem, reduceIte, Nat.reduceAdd, Nat.reduceSub, Nat.reduceMul, Nat.reduceLT, Nat.reduceLeDiff, Nat.reduceEqDiff, Nat.reduceBEq, Int.reduceLE, Int.reduceLT, Int.reduceToNat, Int.reduceMul, Int.reduceAdd, Int.reduceSub, Int.reduceNeg, Int.reduceEq, reduceCtorEq, Nat.reduceMod, Int.reduceBNe, Int.reduceBEq, Int.reduceGT, Int.reduceGE, Int.reduceNe, Int.cast_ofNat_Int, Int.natCast_zero, Int.natCast_one, bne_self_eq_false, gt_iff_lt, ge_iff_le, Int.lt_irrefl, Int.le_refl, recsT_length, z1, z2, w1, w2, w3, z3, hlr, Rec.cells, hn]
        refine call_k (s_disk_Truncate e (((catR (r :: rs)).length : Nat) : Int) hse (by omega) (by omega)) ?_ (by simp -implicitDefEqProofs only [go_sem, reduceIte, Nat.reduceAdd, Nat.reduceSub, Nat.reduceMul, Nat.reduceLT, Nat.reduceLeDiff, Nat.reduceEqDiff, Nat.reduceBEq, Int.reduceLE, Int.reduceLT, Int.reduceToNat, Int.reduceMul, Int.reduceAdd, Int.reduceSub, Int.reduceNeg, Int.reduceEq, reduceCtorEq, Nat.reduceMod, hde])
        simp -implicitDefEqProofs only [go_sem, reduceIte, Nat.reduceAdd, Nat.reduceSub, Nat.reduceMul, Nat.reduceLT, Nat.reduceLeDiff, Nat.reduceEqDiff, Nat.reduceBEq, Int.reduceLE, Int.reduceLT, Int.reduceToNat, Int.reduceMul, Int.reduceAdd, Int.reduceSub, Int.reduceNeg, Int.reduceEq, reduceCtorEq, Nat.reduceMod, Int.reduceBNe, Int.reduceBEq, Int.reduceGT, Int.reduceGE, Int.reduceNe, Int.cast_ofNat_Int, Int.natCast_zero, Int.natCast_one, bne_self_eq_false, gt_iff_lt, ge_iff_le, Int.lt_irrefl, Int.le_refl, opR]
        refine call_k (s_disk_Sync _ g1) ?_
        simp -implicitDefEqProofs only [go_sem, reduceIte, Nat.reduceAdd, Nat.reduceSub, Nat.reduceMul, Nat.reduceLT, Nat.reduceLeDiff, Nat.reduceEqDiff, Nat.reduceBEq, Int.reduceLE, Int.reduceLT, Int.reduceToNat, Int.reduceMul, Int.reduceAdd, Int.reduceSub, Int.reduceNeg, Int.reduceEq, reduceCtorEq, Nat.reduceMod, Int.reduceBNe, Int.reduceBEq, Int.reduceGT, Int.reduceGE, Int.reduceNe, Int.cast_ofNat_Int, Int.natCast_zero, Int.natCast_one, bne_self_eq_false, gt_iff_lt, ge_iff_le, Int.lt_irrefl, Int.le_refl, opR, g2, opW, cutD]
      · obtain ⟨g1, g2⟩ := ev e hall hcap hce hde hse 0 (Nat.zero_le _)
        rw [show ((0 : Nat) : Int) = 0 from rfl] at g1 g2
        rw [hfs hn]
        simp -implicitDefEqProofs only [go_sem, reduceIte, Nat.reduceAdd, Nat.reduceSub, Nat.reduceMul, Nat.reduceLT, Nat.reduceLeDiff, Nat.reduceEqDiff, Nat.reduceBEq, Int.reduceLE, Int.reduceLT, Int.reduceToNat, Int.reduceMul, Int.reduceAdd, Int.reduceSub, Int.reduceNeg, Int.reduceEq, reduceCtorEq, Nat.reduceMod, Int.reduceBNe, Int.reduceBEq, Int.reduceGT, Int.reduceGE, Int.reduceNe, Int.cast_ofNat_Int, Int.natCast_zero, Int.natCast_one, bne_self_eq_false, gt_iff_lt, ge_iff_le, Int.lt_irrefl, Int.le_refl, recsT_length, z1, z2, w1, w2, w3, z3, hlr, Rec.cells, hn]
        refine call_k (s_disk_Truncate e 0 hse (by omega) (by omega)) ?_ (by simp -implicitDefEqProofs only [go_sem, reduceIte, Nat.reduceAdd, Nat.reduceSub, Nat.reduceMul, Nat.reduceLT, Nat.reduceLeDiff, Nat.reduceEqDiff, Nat.reduceBEq, Int.reduceLE, Int.reduceLT, Int.reduceToNat, Int.reduceMul, Int.reduceAdd, Int.reduceSub, Int.reduceNeg, Int.reduceEq, reduceCtorEq, Nat.reduceMod, hde])
        simp -implicitDefEqProofs only [go_sem, reduceIte, Nat.reduceAdd, Nat.reduceSub, Nat.reduceMul, Nat.reduceLT, Nat.reduceLeDiff, Nat.reduceEqDiff, Nat.reduceBEq, Int.reduceLE, Int.reduceLT, Int.reduceToNat, Int.reduceMul, Int.reduceAdd, Int.reduceSub, Int.reduceNeg, Int.reduceEq, reduceCtorEq, Nat.reduceMod, Int.reduceBNe, Int.reduceBEq, Int.reduceGT, Int.reduceGE, Int.reduceNe, Int.cast_ofNat_Int, Int.natCast_zero, Int.natCast_one, bne_self_eq_false, gt_iff_lt, ge_iff_le, Int.lt_irrefl, Int.le_refl, opR]
        refine call_k (s_disk_Sync _ g1) ?_
        simp -implicitDefEqProofs only [go_sem, reduceIte, Nat.reduceAdd, Nat.reduceSub, Nat.reduceMul, Nat.reduceLT, Nat.reduceLeDiff, Nat.reduceEqDiff, Nat.reduceBEq, Int.reduceLE, Int.reduceLT, Int.reduceToNat, Int.reduceMul, Int.reduceAdd, Int.reduceSub, Int.reduceNeg, Int.reduceEq, reduceCtorEq, Nat.reduceMod, Int.reduceBNe, Int.reduceBEq, Int.reduceGT, Int.reduceGE, Int.reduceNe, Int.cast_ofNat_Int, Int.natCast_zero, Int.natCast_one, bne_self_eq_false, gt_iff_lt, ge_iff_le, Int.lt_irrefl, Int.le_refl, opR, g2, opW, cutD, List.take_zero]
  | false =>
    have hall : d.all = d.all := rfl
    have hcap : d.cap = d.cap := rfl
    simp -implicitDefEqProofs only [go_sem, reduceIte, Nat.reduceAdd, Nat.reduceSub, Nat.reduceMul, Nat.reduceLT, Nat.reduceLeDiff, Nat.reduceEqDiff, Nat.reduceBEq, Int.reduceLE, Int.reduceLT, Int.reduceToNat, Int.reduceMul, Int.reduceAdd, Int.reduceSub, Int.reduceNeg, Int.reduceEq, reduceCtorEq, Nat.reduceMod, Int.reduceBNe, Int.reduceBEq, Int.reduceGT, Int.reduceGE, Int.reduceNe, Int.cast_ofNat_Int, Int.natCast_zero, Int.natCast_one, bne_self_eq_false, gt_iff_lt, ge_iff_le, Int.lt_irrefl, Int.le_refl, hc, h0, h1, hdn]
    have hal : d.all.length ≤ 20000 := by
      have := d.ok_of hc
      simp only [Dev.all, List.length_append]
      omega
    refine call_k (s_wal_bytes d hd) ?_ (by simp -implicitDefEqProofs only [go_sem, reduceIte, Nat.reduceAdd, Nat.reduceSub, Nat.reduceMul, Nat.reduceLT, Nat.reduceLeDiff, Nat.reduceEqDiff, Nat.reduceBEq, Int.reduceLE, Int.reduceLT, Int.reduceToNat, Int.reduceMul, Int.reduceAdd, Int.reduceSub, Int.reduceNeg, Int.reduceEq, reduceCtorEq, Nat.reduceMod, hdn])
    simp -implicitDefEqProofs only [go_sem, reduceIte, Nat.reduceAdd, Nat.reduceSub, Nat.reduceMul, Nat.reduceLT, Nat.reduceLeDiff, Nat.reduceEqDiff, Nat.reduceBEq, Int.reduceLE, Int.reduceLT, Int.reduceToNat, Int.reduceMul, Int.reduceAdd, Int.reduceSub, Int.reduceNeg, Int.reduceEq, reduceCtorEq, Nat.reduceMod, Int.reduceBNe, Int.reduceBEq, Int.reduceGT, Int.reduceGE, Int.reduceNe, Int.cast_ofNat_Int, Int.natCast_zero, Int.natCast_one, bne_self_eq_false, gt_iff_lt, ge_iff_le, Int.lt_irrefl, Int.le_refl]
    refine call_k (s_frame_Scan_ok d.all hal) ?_ (by simp -implicitDefEqProofs only [go_sem, reduceIte, Nat.reduceAdd, Nat.reduceSub, Nat.reduceMul, Nat.reduceLT, Nat.reduceLeDiff, Nat.reduceEqDiff, Nat.reduceBEq, Int.reduceLE, Int.reduceLT, Int.reduceToNat, Int.reduceMul, Int.reduceAdd, Int.reduceSub, Int.reduceNeg, Int.reduceEq, reduceCtorEq, Nat.reduceMod, bT_take_self])
    cases hs : scanL d.all with
    | nil =>
      have z0 : ((([] : List Rec).length : Nat) : Int) = 0 := rfl
      obtain ⟨g1, g2⟩ := ev d hall hcap hc hdn hd 0 (Nat.zero_le _)
      rw [show ((0 : Nat) : Int) = 0 from rfl] at g1 g2
      rw [openW_none hc (by omega) (by omega) (by rw [← hall]; exact hs)]
      simp -implicitDefEqProofs only [go_sem, reduceIte, Nat.reduceAdd, Nat.reduceSub, Nat.reduceMul, Nat.reduceLT, Nat.reduceLeDiff, Nat.reduceEqDiff, Nat.reduceBEq, Int.reduceLE, Int.reduceLT, Int.reduceToNat, Int.reduceMul, Int.reduceAdd, Int.reduceSub, Int.reduceNeg, Int.reduceEq, reduceCtorEq, Nat.reduceMod, Int.reduceBNe, Int.reduceBEq, Int.reduceGT, Int.reduceGE, Int.reduceNe, Int.cast_ofNat_Int, Int.natCast_zero, Int.natCast_one, bne_self_eq_false, gt_iff_lt, ge_iff_le, Int.lt_irrefl, Int.le_refl, recsT_length, z0]
      refine call_k (s_disk_Truncate d 0 hd (by omega) (by omega)) ?_ (by simp -implicitDefEqProofs only [go_sem, reduceIte, Nat.reduceAdd, Nat.reduceSub, Nat.reduceMul, Nat.reduceLT, Nat.reduceLeDiff, Nat.reduceEqDiff, Nat.reduceBEq, Int.reduceLE, Int.reduceLT, Int.reduceToNat, Int.reduceMul, Int.reduceAdd, Int.reduceSub, Int.reduceNeg, Int.reduceEq, reduceCtorEq, Nat.reduceMod, hdn])
      simp -implicitDefEqProofs only [go_sem, reduceIte, Nat.reduceAdd, Nat.reduceSub, Nat.reduceMul, Nat.reduceLT, Nat.reduceLeDiff, Nat.reduceEqDiff, Nat.reduceBEq, Int.reduceLE, Int.reduceLT, Int.reduceToNat, Int.reduceMul, Int.reduceAdd, Int.reduceSub, Int.reduceNeg, Int.reduceEq, reduceCtorEq, Nat.reduceMod, Int.reduceBNe, Int.reduceBEq, Int.reduceGT, Int.reduceGE, Int.reduceNe, Int.cast_ofNat_Int, Int.natCast_zero, Int.natCast_one, bne_self_eq_false, gt_iff_lt, ge_iff_le, Int.lt_irrefl, Int.le_refl, opR]
      refine call_k (s_disk_Sync _ g1) ?_
      simp -implicitDefEqProofs only [go_sem, reduceIte, Nat.reduceAdd, Nat.reduceSub, Nat.reduceMul, Nat.reduceLT, Nat.reduceLeDiff, Nat.reduceEqDiff, Nat.reduceBEq, Int.reduceLE, Int.reduceLT, Int.reduceToNat, Int.reduceMul, Int.reduceAdd, Int.reduceSub, Int.reduceNeg, Int.reduceEq, reduceCtorEq, Nat.reduceMod, Int.reduceBNe, Int.reduceBEq, Int.reduceGT, Int.reduceGE, Int.reduceNe, Int.cast_ofNat_Int, Int.natCast_zero, Int.natCast_one, bne_self_eq_false, gt_iff_lt, ge_iff_le, Int.lt_irrefl, Int.le_refl, opR, g2, opW, cutD, List.take_zero]
    | cons r rs =>
      have hsm := bytes_count (scanL_ok d.all)
      rw [hs, List.length_cons] at hsm
      have hlast : (r :: rs).getLast (List.cons_ne_nil r rs) ∈ scanL d.all := by rw [hs]; exact List.getLast_mem _
      have hlr := recs_last r rs
      have hus := used_le d
      have hfl := fun (h : n - 1 ≤ ((r :: rs).getLast (List.cons_ne_nil r rs)).num) => openW_some hc (by omega) (by omega) (by rw [← hall]; exact hs) h
      have hfs := fun (h : ¬ n - 1 ≤ ((r :: rs).getLast (List.cons_ne_nil r rs)).num) => openW_short hc (by omega) (by omega) (by rw [← hall]; exact hs) h
      unfold Dev.used at hus
      rw [hs] at hus
      generalize (r :: rs).getLast (List.cons_ne_nil r rs) = la at hlast hlr hfl hfs
      obtain ⟨q0, q1⟩ := rec_num hlast
      have z1 : (((r :: rs).length : Nat) : Int) > 0 := by rw [List.length_cons]; omega
      have z2 : (0 < (((rs.length + 1 : Nat)) : Int)) = True := eq_true (by omega)
      have w1 : IntKind.i64.wrap ((((rs.length + 1 : Nat)) : Int) - 1) = ((rs.length : Nat) : Int) := by rw [wrap_i64_id (by omega) (by omega)]; omega
      have w2 : IntKind.i64.wrap (n - 1) = n - 1 := wrap_i64_id (by omega) (by omega)
      have w3 : IntKind.i64.wrap (la.num + 1) = la.num + 1 := wrap_i64_id (by omega) (by omega)
      have z3 : (recsT (r :: rs))[0]? = some r.cells := rfl
      rw [List.length_cons] at z1
      by_cases hn : n - 1 ≤ la.num
      · obtain ⟨g1, g2⟩ := ev d hall hcap hc hdn hd (catR (r :: rs)).length hus
        rw [hfl hn]
        simp -implicitDefEqProofs only [go_sem, reduceIte, Nat.reduceAdd, Nat.reduceSub, Nat.reduceMul, Nat.reduceLT, Nat.reduceLeDiff, Nat.reduceEqDiff, Nat.reduceBEq, Int.reduceLE, Int.reduceLT, Int.reduceToNat, Int.reduceMul, Int.reduceAdd, Int.reduceSub, Int.reduceNeg, Int.reduceEq, reduceCtorEq, Nat.reduceMod, Int.reduceBNe, Int.reduceBEq, Int.reduceGT, Int.reduceGE, Int.reduceNe, Int.cast_ofNat_Int, Int.natCast_zero, Int.natCast_one, bne_self_eq_false, gt_iff_lt, ge_iff_le, Int.lt_irrefl, Int.le_refl, recsT_length, z1, z2, w1, w2, w3, z3, hlr, Rec.cells, hn]
        refine call_k (s_disk_Truncate d (((catR (r :: rs)).length : Nat) : Int) hd (by omega) (by omega)) ?_ (by simp -implicitDefEqProofs only [go_sem, reduceIte, Nat.reduceAdd, Nat.reduceSub, Nat.reduceMul, Nat.reduceLT, Nat.reduceLeDiff, Nat.reduceEqDiff, Nat.reduceBEq, Int.reduceLE, Int.reduceLT, Int.reduceToNat, Int.reduceMul, Int.reduceAdd, Int.reduceSub, Int.reduceNeg, Int.reduceEq, reduceCtorEq, Nat.reduceMod, hdn])
        simp -implicitDefEqProofs only [go_sem, reduceIte, Nat.reduceAdd, Nat.reduceSub, Nat.reduceMul, Nat.reduceLT, Nat.reduceLeDiff, Nat.reduceEqDiff, Nat.reduceBEq, Int.reduceLE, Int.reduceLT, Int.reduceToNat, Int.reduceMul, Int.reduceAdd, Int.reduceSub, Int.reduceNeg, Int.reduceEq, reduceCtorEq, Nat.reduceMod, Int.reduceBNe, Int.reduceBEq, Int.reduceGT, Int.reduceGE, Int.reduceNe, Int.cast_ofNat_Int, Int.natCast_zero, Int.natCast_one, bne_self_eq_false, gt_iff_lt, ge_iff_le, Int.lt_irrefl, Int.le_refl, opR]
        refine call_k (s_disk_Sync _ g1) ?_
        simp -implicitDefEqProofs only [go_sem, reduceIte, Nat.reduceAdd, Nat.reduceSub, Nat.reduceMul, Nat.reduceLT, Nat.reduceLeDiff, Nat.reduceEqDiff, Nat.reduceBEq, Int.reduceLE, Int.reduceLT, Int.reduceToNat, Int.reduceMul, Int.reduceAdd, Int.reduceSub, Int.reduceNeg, Int.reduceEq, reduceCtorEq, Nat.reduceMod, Int.reduceBNe, Int.reduceBEq, Int.reduceGT, Int.reduceGE, Int.reduceNe, Int.cast_ofNat_Int, Int.natCast_zero, Int.natCast_one, bne_self_eq_false, gt_iff_lt, ge_iff_le, Int.lt_irrefl, Int.le_refl, opR, g2, opW, cutD]
      · obtain ⟨g1, g2⟩ := ev d hall hcap hc hdn hd 0 (Nat.zero_le _)
        rw [show ((0 : Nat) : Int) = 0 from rfl] at g1 g2
        rw [hfs hn]
        simp -implicitDefEqProofs only [go_sem, reduceIte, Nat.reduceAdd, Nat.reduceSub, Nat.reduceMul, Nat.reduceLT, Nat.reduceLeDiff, Nat.reduceEqDiff, Nat.reduceBEq, Int.reduceLE, Int.reduceLT, Int.reduceToNat, Int.reduceMul, Int.reduceAdd, Int.reduceSub, Int.reduceNeg, Int.reduceEq, reduceCtorEq, Nat.reduceMod, Int.reduceBNe, Int.reduceBEq, Int.reduceGT, Int.reduceGE, Int.reduceNe, Int.cast_ofNat_Int, Int.natCast_zero, Int.natCast_one, bne_self_eq_false, gt_iff_lt, ge_iff_le, Int.lt_irrefl, Int.le_refl, recsT_length, z1, z2, w1, w2, w3, z3, hlr, Rec.cells, hn]
        refine call_k (s_disk_Truncate d 0 hd (by omega) (by omega)) ?_ (by simp -implicitDefEqProofs only [go_sem, reduceIte, Nat.reduceAdd, Nat.reduceSub, Nat.reduceMul, Nat.reduceLT, Nat.reduceLeDiff, Nat.reduceEqDiff, Nat.reduceBEq, Int.reduceLE, Int.reduceLT, Int.reduceToNat, Int.reduceMul, Int.reduceAdd, Int.reduceSub, Int.reduceNeg, Int.reduceEq, reduceCtorEq, Nat.reduceMod, hdn])
        simp -implicitDefEqProofs only [go_sem, reduceIte, Nat.reduceAdd, Nat.reduceSub, Nat.reduceMul, Nat.reduceLT, Nat.reduceLeDiff, Nat.reduceEqDiff, Nat.reduceBEq, Int.reduceLE, Int.reduceLT, Int.reduceToNat, Int.reduceMul, Int.reduceAdd, Int.reduceSub, Int.reduceNeg, Int.reduceEq, reduceCtorEq, Nat.reduceMod, Int.reduceBNe, Int.reduceBEq, Int.reduceGT, Int.reduceGE, Int.reduceNe, Int.cast_ofNat_Int, Int.natCast_zero, Int.natCast_one, bne_self_eq_false, gt_iff_lt, ge_iff_le, Int.lt_irrefl, Int.le_refl, opR]
        refine call_k (s_disk_Sync _ g1) ?_
        simp -implicitDefEqProofs only [go_sem, reduceIte, Nat.reduceAdd, Nat.reduceSub, Nat.reduceMul, Nat.reduceLT, Nat.reduceLeDiff, Nat.reduceEqDiff, Nat.reduceBEq, Int.reduceLE, Int.reduceLT, Int.reduceToNat, Int.reduceMul, Int.reduceAdd, Int.reduceSub, Int.reduceNeg, Int.reduceEq, reduceCtorEq, Nat.reduceMod, Int.reduceBNe, Int.reduceBEq, Int.reduceGT, Int.reduceGE, Int.reduceNe, Int.cast_ofNat_Int, Int.natCast_zero, Int.natCast_one, bne_self_eq_false, gt_iff_lt, ge_iff_le, Int.lt_irrefl, Int.le_refl, opR, g2, opW, cutD, List.take_zero]
end Go.Proofs.Ytdpnjhooehadmaa.Pm

/-! PmWj -/
set_option linter.all false
set_option maxRecDepth 100000
set_option maxHeartbeats 2000000
namespace Go.Proofs.Ytdpnjhooehadmaa.Pm
open Go Go.RowKit

def WLog.app (l : WLog) (b : List (BitVec 8)) : WLog × Int × Int := if l.ok then (if b.length ≤ 1000 then (if l.next ≤ 1000000000 then
  (if (l.dev.app (bytesL ⟨l.next, b⟩)).2 = 0 then (⟨(l.dev.app (bytesL ⟨l.next, b⟩)).1, l.first, l.next + 1⟩, l.next, 0) else (zeroW, 0, (l.dev.app (bytesL ⟨l.next, b⟩)).2)) else (zeroW, 0, 2)) else (zeroW, 0, 4)) else (zeroW, 0, 8)
def opW3 (p : WLog × Int × Int) : List (T × Bool) := [(.agg p.1.cells, true), (.i .i64 p.2.1, true), (.i .i64 p.2.2, true)]
theorem s_wal_Append (l : WLog) (hl : l.fine) (b : List (BitVec 8)) (hb : b.length ≤ 100000) : Spec Try.prog 48 [.agg l.cells, .sl (bT b)] [] (resV ((opW3 (l.app b)).map AV.ofT)) := by
  refine spec_k (hold mixed) b_wal_Append (opW3 (l.app b)) ?_
  by_cases h : l.ok
  · obtain ⟨b0, b1, b2⟩ := ok_bounds h
    have hnx := h.2.2.2.1
    simp -implicitDefEqProofs only [go_sem, reduceIte, Nat.reduceAdd, Nat.reduceSub, Nat.reduceMul, Nat.reduceLT, Nat.reduceLeDiff, Nat.reduceEqDiff, Nat.reduceBEq, Int.reduceLE, Int.reduceLT, Int.reduceToNat, Int.reduceMul, Int.reduceAdd, Int.reduceSub, Int.reduceNeg, Int.reduceEq, reduceCtorEq, Nat.reduceMod, Int.reduceBNe, Int.reduceBEq, Int.reduceGT, Int.reduceGE, Int.reduceNe, Int.cast_ofNat_Int, Int.natCast_zero, Int.natCast_one, bne_self_eq_false, gt_iff_lt, ge_iff_le, Int.lt_irrefl, Int.le_refl]
    refine call_k (s_wal_look_ok l hl h) ?_
    by_cases c0 : (1000 : Int) < b.length
    · have ev : l.app b = (zeroW, 0, 4) := by
        have : ¬ b.length ≤ 1000 := by omega
        simp [WLog.app, h, this]
      rw [ev]
      simp -implicitDefEqProofs only [go_sem, reduceIte, Nat.reduceAdd, Nat.reduceSub, Nat.reduceMul, Nat.reduceLT, Nat.reduceLeDiff, Nat.reduceEqDiff, Nat.reduceBEq, Int.reduceLE, Int.reduceLT, Int.reduceToNat, Int.reduceMul, Int.reduceAdd, Int.reduceSub, Int.reduceNeg, Int.reduceEq, reduceCtorEq, Nat.reduceMod, Int.reduceBNe, Int.reduceBEq, Int.reduceGT, Int.reduceGE, Int.reduceNe, Int.cast_ofNat_Int, Int.natCast_zero, Int.natCast_one, bne_self_eq_false, gt_iff_lt, ge_iff_le, Int.lt_irrefl, Int.le_refl, viewV, c0, opW3, zeroW_cells]
    by_cases c1 : 1000000000 < l.next
    · have ev : l.app b = (zeroW, 0, 2) := by
        have h1 : b.length ≤ 1000 := by omega
        have h2 : ¬ l.next ≤ 1000000000 := by omega
        simp [WLog.app, h, h1, h2]
      rw [ev]
      simp -implicitDefEqProofs only [go_sem, reduceIte, Nat.reduceAdd, Nat.reduceSub, Nat.reduceMul, Nat.reduceLT, Nat.reduceLeDiff, Nat.reduceEqDiff, Nat.reduceBEq, Int.reduceLE, Int.reduceLT, Int.reduceToNat, Int.reduceMul, Int.reduceAdd, Int.reduceSub, Int.reduceNeg, Int.reduceEq, reduceCtorEq, Nat.reduceMod, Int.reduceBNe, Int.reduceBEq, Int.reduceGT, Int.reduceGE, Int.reduceNe, Int.cast_ofNat_Int, Int.natCast_zero, Int.natCast_one, bne_self_eq_false, gt_iff_lt, ge_iff_le, Int.lt_irrefl, Int.le_refl, viewV, c0, c1, opW3, zeroW_cells]
    have hrk : (Rec.mk l.next b).ok = true := (Rec.ok_iff _).2 ⟨by show 0 ≤ l.next; omega, by show l.next ≤ _; omega, by show b.length ≤ _; omega⟩
    have hbl : (bytesL ⟨l.next, b⟩).length ≤ 100000 := by rw [bytesL_length]; show 12 + b.length ≤ _; omega
    have ev : l.app b = if (l.dev.app (bytesL ⟨l.next, b⟩)).2 = 0 then (⟨(l.dev.app (bytesL ⟨l.next, b⟩)).1, l.first, l.next + 1⟩, l.next, 0) else (zeroW, 0, (l.dev.app (bytesL ⟨l.next, b⟩)).2) := by
      have h1 : b.length ≤ 1000 := by omega
      have h2 : l.next ≤ 1000000000 := by omega
      simp [WLog.app, h, h1, h2]
    have w1 : IntKind.i64.wrap (l.next + 1) = l.next + 1 := wrap_i64_id (by omega) (by omega)
    rw [ev]
    simp -implicitDefEqProofs only [go_sem, reduceIte, Nat.reduceAdd, Nat.reduceSub, Nat.reduceMul, Nat.reduceLT, Nat.reduceLeDiff, Nat.reduceEqDiff, Nat.reduceBEq, Int.reduceLE, Int.reduceLT, Int.reduceToNat, Int.reduceMul, Int.reduceAdd, Int.reduceSub, Int.reduceNeg, Int.reduceEq, reduceCtorEq, Nat.reduceMod, Int.reduceBNe, Int.reduceBEq, Int.reduceGT, Int.reduceGE, Int.reduceNe, Int.cast_ofNat_Int, Int.natCast_zero, Int.natCast_one, bne_self_eq_false, gt_iff_lt, ge_iff_le, Int.lt_irrefl, Int.le_refl, viewV, c0, c1]
    refine call_k (s_frame_Encode_ok ⟨l.next, b⟩ hrk) ?_ (by simp -implicitDefEqProofs only [go_sem, reduceIte, Nat.reduceAdd, Nat.reduceSub, Nat.reduceMul, Nat.reduceLT, Nat.reduceLeDiff, Nat.reduceEqDiff, Nat.reduceBEq, Int.reduceLE, Int.reduceLT, Int.reduceToNat, Int.reduceMul, Int.reduceAdd, Int.reduceSub, Int.reduceNeg, Int.reduceEq, reduceCtorEq, Nat.reduceMod, Rec.cells])
    simp -implicitDefEqProofs only [go_sem, reduceIte, Nat.reduceAdd, Nat.reduceSub, Nat.reduceMul, Nat.reduceLT, Nat.reduceLeDiff, Nat.reduceEqDiff, Nat.reduceBEq, Int.reduceLE, Int.reduceLT, Int.reduceToNat, Int.reduceMul, Int.reduceAdd, Int.reduceSub, Int.reduceNeg, Int.reduceEq, reduceCtorEq, Nat.reduceMod, Int.reduceBNe, Int.reduceBEq, Int.reduceGT, Int.reduceGE, Int.reduceNe, Int.cast_ofNat_Int, Int.natCast_zero, Int.natCast_one, bne_self_eq_false, gt_iff_lt, ge_iff_le, Int.lt_irrefl, Int.le_refl]
    refine call_k (s_disk_Append l.dev (bytesL ⟨l.next, b⟩) hl.1 hbl) ?_ (by simp -implicitDefEqProofs only [go_sem, reduceIte, Nat.reduceAdd, Nat.reduceSub, Nat.reduceMul, Nat.reduceLT, Nat.reduceLeDiff, Nat.reduceEqDiff, Nat.reduceBEq, Int.reduceLE, Int.reduceLT, Int.reduceToNat, Int.reduceMul, Int.reduceAdd, Int.reduceSub, Int.reduceNeg, Int.reduceEq, reduceCtorEq, Nat.reduceMod, bT_take_self]) (by simp -implicitDefEqProofs only [go_sem, reduceIte, Nat.reduceAdd, Nat.reduceSub, Nat.reduceMul, Nat.reduceLT, Nat.reduceLeDiff, Nat.reduceEqDiff, Nat.reduceBEq, Int.reduceLE, Int.reduceLT, Int.reduceToNat, Int.reduceMul, Int.reduceAdd, Int.reduceSub, Int.reduceNeg, Int.reduceEq, reduceCtorEq, Nat.reduceMod, opR])
    generalize l.dev.app (bytesL ⟨l.next, b⟩) = p
    by_cases hp : p.2 = 0
    · have hp' : (p.2 != 0) = false := by simp [hp]
      rw [if_pos hp]
      simp -implicitDefEqProofs only [go_sem, reduceIte, Nat.reduceAdd, Nat.reduceSub, Nat.reduceMul, Nat.reduceLT, Nat.reduceLeDiff, Nat.reduceEqDiff, Nat.reduceBEq, Int.reduceLE, Int.reduceLT, Int.reduceToNat, Int.reduceMul, Int.reduceAdd, Int.reduceSub, Int.reduceNeg, Int.reduceEq, reduceCtorEq, Nat.reduceMod, Int.reduceBNe, Int.reduceBEq, Int.reduceGT, Int.reduceGE, Int.reduceNe, Int.cast_ofNat_Int, Int.natCast_zero, Int.natCast_one, bne_self_eq_false, gt_iff_lt, ge_iff_le, Int.lt_irrefl, Int.le_refl, opR, hp', w1]
      refine call_ud (s_wal_with p.1 l.first (l.next + 1)) ?_
      simp -implicitDefEqProofs only [go_sem, reduceIte, Nat.reduceAdd, Nat.reduceSub, Nat.reduceMul, Nat.reduceLT, Nat.reduceLeDiff, Nat.reduceEqDiff, Nat.reduceBEq, Int.reduceLE, Int.reduceLT, Int.reduceToNat, Int.reduceMul, Int.reduceAdd, Int.reduceSub, Int.reduceNeg, Int.reduceEq, reduceCtorEq, Nat.reduceMod, Int.reduceBNe, Int.reduceBEq, Int.reduceGT, Int.reduceGE, Int.reduceNe, Int.cast_ofNat_Int, Int.natCast_zero, Int.natCast_one, bne_self_eq_false, gt_iff_lt, ge_iff_le, Int.lt_irrefl, Int.le_refl, opW3]
    · have hp' : (p.2 != 0) = true := by simp [hp]
      rw [if_neg hp]
      simp -implicitDefEqProofs only [go_sem, reduceIte, Nat.reduceAdd, Nat.reduceSub, Nat.reduceMul, Nat.reduceLT, Nat.reduceLeDiff, Nat.reduceEqDiff, Nat.reduceBEq, Int.reduceLE, Int.reduceLT, Int.reduceToNat, Int.reduceMul, Int.reduceAdd, Int.reduceSub, Int.reduceNeg, Int.reduceEq, reduceCtorEq, Nat.reduceMod, Int.reduceBNe, Int.reduceBEq, Int.reduceGT, Int.reduceGE, Int.reduceNe, Int.cast_ofNat_Int, Int.natCast_zero, Int.natCast_one, bne_self_eq_false, gt_iff_lt, ge_iff_le, Int.lt_irrefl, Int.le_refl, opR, hp', opW3, zeroW_cells]
  · have ev : l.app b = (zeroW, 0, 8) := by simp [WLog.app, h]
    rw [ev]
    simp -implicitDefEqProofs only [go_sem, reduceIte, Nat.reduceAdd, Nat.reduceSub, Nat.reduceMul, Nat.reduceLT, Nat.reduceLeDiff, Nat.reduceEqDiff, Nat.reduceBEq, Int.reduceLE, Int.reduceLT, Int.reduceToNat, Int.reduceMul, Int.reduceAdd, Int.reduceSub, Int.reduceNeg, Int.reduceEq, reduceCtorEq, Nat.reduceMod, Int.reduceBNe, Int.reduceBEq, Int.reduceGT, Int.reduceGE, Int.reduceNe, Int.cast_ofNat_Int, Int.natCast_zero, Int.natCast_one, bne_self_eq_false, gt_iff_lt, ge_iff_le, Int.lt_irrefl, Int.le_refl]
    refine call_k (s_wal_look_bad l hl h) ?_
    simp -implicitDefEqProofs only [go_sem, reduceIte, Nat.reduceAdd, Nat.reduceSub, Nat.reduceMul, Nat.reduceLT, Nat.reduceLeDiff, Nat.reduceEqDiff, Nat.reduceBEq, Int.reduceLE, Int.reduceLT, Int.reduceToNat, Int.reduceMul, Int.reduceAdd, Int.reduceSub, Int.reduceNeg, Int.reduceEq, reduceCtorEq, Nat.reduceMod, Int.reduceBNe, Int.reduceBEq, Int.reduceGT, Int.reduceGE, Int.reduceNe, Int.cast_ofNat_Int, Int.natCast_zero, Int.natCast_one, bne_self_eq_false, gt_iff_lt, ge_iff_le, Int.lt_irrefl, Int.le_refl, zeroV, opW3, zeroW_cells]
end Go.Proofs.Ytdpnjhooehadmaa.Pm

/-! PmWk -/
set_option linter.all false
set_option maxRecDepth 100000
set_option maxHeartbeats 2000000
namespace Go.Proofs.Ytdpnjhooehadmaa.Pm
open Go Go.RowKit

theorem ok_follows (l : WLog) : follows l.recs = true := scanL_follows l.dev.all
theorem syn_recs {l : WLog} (h : l.ok) : scanL l.dev.syn = l.recs.take (cntR l.recs l.dev.syn.length) := by
  have hall := all_eq h
  have hsyn : l.dev.syn = (catR l.recs).take l.dev.syn.length := by
    rw [← hall, Dev.all, List.take_left]
  have hle : l.dev.syn.length ≤ (catR l.recs).length := by rw [← hall, Dev.all, List.length_append]; omega
  have := scan_pre (ok_follows l) hle
  rw [← hsyn] at this
  exact this
theorem syn_len {l : WLog} (h : l.ok) : (scanL l.dev.syn).length = cntR l.recs l.dev.syn.length := by
  rw [syn_recs h, List.length_take, Nat.min_eq_left (cntR_le _ _)]
theorem syn_fit {l : WLog} (h : l.ok) {m : Nat} (hm : m ≤ (scanL l.dev.syn).length) : (catR (l.recs.take m)).length ≤ l.dev.syn.length := by
  rw [syn_len h] at hm
  have := catR_mono l.recs hm
  have := cntR_in l.recs l.dev.syn.length
  omega
def WLog.sync (l : WLog) : WLog × Int := if l.ok then (⟨(l.dev.sync).1, l.first, l.next⟩, 0) else (zeroW, 8)
def WLog.drop (l : WLog) (n : Int) : WLog × Int := if l.ok then (if l.first ≤ n ∧ n ≤ l.next then (if n ≤ l.first + (scanL l.dev.syn).length then
  (⟨(l.dev.drop (catR (l.recs.take (n - l.first).toNat)).length).1, n, l.next⟩, 0) else (zeroW, 32)) else (zeroW, 2)) else (zeroW, 8)
theorem sync_e {l : WLog} (h : l.ok) : (l.dev.sync).2 = 0 := by
  have hup := upE_of h.1 h.2.1
  simp [Dev.sync, orE, hup]
theorem drop_e {l : WLog} (h : l.ok) {k : Nat} (hk : k ≤ l.dev.syn.length) : (l.dev.drop k).2 = 0 := by
  have hup := upE_of h.1 h.2.1
  simp [Dev.drop, orE, hup, hk]
theorem s_wal_Sync (l : WLog) (hl : l.fine) : Spec Try.prog 50 [.agg l.cells] [] (resV ((opW l.sync).map AV.ofT)) := by
  refine spec_k (hold mixed) b_wal_Sync (opW l.sync) ?_
  by_cases h : l.ok
  · have ev : l.sync = (⟨(l.dev.sync).1, l.first, l.next⟩, 0) := if_pos h
    have he := sync_e h
    rw [ev]
    simp -implicitDefEqProofs only [go_sem, reduceIte, Nat.reduceAdd, Nat.reduceSub, Nat.reduceMul, Nat.reduceLT, Nat.reduceLeDiff, Nat.reduceEqDiff, Nat.reduceBEq, Int.reduceLE, Int.reduceLT, Int.reduceToNat, Int.reduceMul, Int.reduceAdd, Int.reduceSub, Int.reduceNeg, Int.reduceEq, reduceCtorEq, Nat.reduceMod, Int.reduceBNe, Int.reduceBEq, Int.reduceGT, Int.reduceGE, Int.reduceNe, Int.cast_ofNat_Int, Int.natCast_zero, Int.natCast_one, bne_self_eq_false, gt_iff_lt, ge_iff_le, Int.lt_irrefl, Int.le_refl]
    refine call_k (s_wal_look_ok l hl h) ?_
    simp -implicitDefEqProofs only [go_sem, reduceIte, Nat.reduceAdd, Nat.reduceSub, Nat.reduceMul, Nat.reduceLT, Nat.reduceLeDiff, Nat.reduceEqDiff, Nat.reduceBEq, Int.reduceLE, Int.reduceLT, Int.reduceToNat, Int.reduceMul, Int.reduceAdd, Int.reduceSub, Int.reduceNeg, Int.reduceEq, reduceCtorEq, Nat.reduceMod, Int.reduceBNe, Int.reduceBEq, Int.reduceGT, Int.reduceGE, Int.reduceNe, Int.cast_ofNat_Int, Int.natCast_zero, Int.natCast_one, bne_self_eq_false, gt_iff_lt, ge_iff_le, Int.lt_irrefl, Int.le_refl, viewV]
    refine call_k (s_disk_Sync l.dev hl.1) ?_
    generalize l.dev.sync = p at he
    simp -implicitDefEqProofs only [go_sem, reduceIte, Nat.reduceAdd, Nat.reduceSub, Nat.reduceMul, Nat.reduceLT, Nat.reduceLeDiff, Nat.reduceEqDiff, Nat.reduceBEq, Int.reduceLE, Int.reduceLT, Int.reduceToNat, Int.reduceMul, Int.reduceAdd, Int.reduceSub, Int.reduceNeg, Int.reduceEq, reduceCtorEq, Nat.reduceMod, Int.reduceBNe, Int.reduceBEq, Int.reduceGT, Int.reduceGE, Int.reduceNe, Int.cast_ofNat_Int, Int.natCast_zero, Int.natCast_one, bne_self_eq_false, gt_iff_lt, ge_iff_le, Int.lt_irrefl, Int.le_refl, opR, he]
    first | refine call_ud (s_wal_with p.1 l.first l.next) ?_ | refine call_u (s_wal_with p.1 l.first l.next) ?_
    simp -implicitDefEqProofs only [go_sem, reduceIte, Nat.reduceAdd, Nat.reduceSub, Nat.reduceMul, Nat.reduceLT, Nat.reduceLeDiff, Nat.reduceEqDiff, Nat.reduceBEq, Int.reduceLE, Int.reduceLT, Int.reduceToNat, Int.reduceMul, Int.reduceAdd, Int.reduceSub, Int.reduceNeg, Int.reduceEq, reduceCtorEq, Nat.reduceMod, Int.reduceBNe, Int.reduceBEq, Int.reduceGT, Int.reduceGE, Int.reduceNe, Int.cast_ofNat_Int, Int.natCast_zero, Int.natCast_one, bne_self_eq_false, gt_iff_lt, ge_iff_le, Int.lt_irrefl, Int.le_refl, opW, he]
  · have ev : l.sync = (zeroW, 8) := if_neg h
    rw [ev]
    simp -implicitDefEqProofs only [go_sem, reduceIte, Nat.reduceAdd, Nat.reduceSub, Nat.reduceMul, Nat.reduceLT, Nat.reduceLeDiff, Nat.reduceEqDiff, Nat.reduceBEq, Int.reduceLE, Int.reduceLT, Int.reduceToNat, Int.reduceMul, Int.reduceAdd, Int.reduceSub, Int.reduceNeg, Int.reduceEq, reduceCtorEq, Nat.reduceMod, Int.reduceBNe, Int.reduceBEq, Int.reduceGT, Int.reduceGE, Int.reduceNe, Int.cast_ofNat_Int, Int.natCast_zero, Int.natCast_one, bne_self_eq_false, gt_iff_lt, ge_iff_le, Int.lt_irrefl, Int.le_refl]
    refine call_k (s_wal_look_bad l hl h) ?_
    simp -implicitDefEqProofs only [go_sem, reduceIte, Nat.reduceAdd, Nat.reduceSub, Nat.reduceMul, Nat.reduceLT, Nat.reduceLeDiff, Nat.reduceEqDiff, Nat.reduceBEq, Int.reduceLE, Int.reduceLT, Int.reduceToNat, Int.reduceMul, Int.reduceAdd, Int.reduceSub, Int.reduceNeg, Int.reduceEq, reduceCtorEq, Nat.reduceMod, Int.reduceBNe, Int.reduceBEq, Int.reduceGT, Int.reduceGE, Int.reduceNe, Int.cast_ofNat_Int, Int.natCast_zero, Int.natCast_one, bne_self_eq_false, gt_iff_lt, ge_iff_le, Int.lt_irrefl, Int.le_refl, zeroV, opW, zeroW_cells]
theorem s_wal_Drop (l : WLog) (hl : l.fine) (n : Int) (n0 : -9223372036854775808 ≤ n) (n1 : n ≤ 9223372036854775807) : Spec Try.prog 52 [.agg l.cells, .i .i64 n] [] (resV ((opW (l.drop n)).map AV.ofT)) := by
  refine spec_k (hold mixed) b_wal_Drop (opW (l.drop n)) ?_
  by_cases h : l.ok
  · obtain ⟨b0, b1, b2⟩ := ok_bounds h
    have hnx := h.2.2.2.1
    simp -implicitDefEqProofs only [go_sem, reduceIte, Nat.reduceAdd, Nat.reduceSub, Nat.reduceMul, Nat.reduceLT, Nat.reduceLeDiff, Nat.reduceEqDiff, Nat.reduceBEq, Int.reduceLE, Int.reduceLT, Int.reduceToNat, Int.reduceMul, Int.reduceAdd, Int.reduceSub, Int.reduceNeg, Int.reduceEq, reduceCtorEq, Nat.reduceMod, Int.reduceBNe, Int.reduceBEq, Int.reduceGT, Int.reduceGE, Int.reduceNe, Int.cast_ofNat_Int, Int.natCast_zero, Int.natCast_one, bne_self_eq_false, gt_iff_lt, ge_iff_le, Int.lt_irrefl, Int.le_refl]
    refine call_k (s_wal_look_ok l hl h) ?_
    by_cases c0 : n < l.first
    · have ev : l.drop n = (zeroW, 2) := by
        have : ¬ (l.first ≤ n ∧ n ≤ l.next) := by omega
        simp only [WLog.drop, if_pos h, if_neg this]
      rw [ev]
      simp -implicitDefEqProofs only [go_sem, reduceIte, Nat.reduceAdd, Nat.reduceSub, Nat.reduceMul, Nat.reduceLT, Nat.reduceLeDiff, Nat.reduceEqDiff, Nat.reduceBEq, Int.reduceLE, Int.reduceLT, Int.reduceToNat, Int.reduceMul, Int.reduceAdd, Int.reduceSub, Int.reduceNeg, Int.reduceEq, reduceCtorEq, Nat.reduceMod, Int.reduceBNe, Int.reduceBEq, Int.reduceGT, Int.reduceGE, Int.reduceNe, Int.cast_ofNat_Int, Int.natCast_zero, Int.natCast_one, bne_self_eq_false, gt_iff_lt, ge_iff_le, Int.lt_irrefl, Int.le_refl, viewV, c0, opW, zeroW_cells]
    by_cases c1 : l.next < n
    · have ev : l.drop n = (zeroW, 2) := by
        have : ¬ (l.first ≤ n ∧ n ≤ l.next) := by omega
        simp only [WLog.drop, if_pos h, if_neg this]
      rw [ev]
      simp -implicitDefEqProofs only [go_sem, reduceIte, Nat.reduceAdd, Nat.reduceSub, Nat.reduceMul, Nat.reduceLT, Nat.reduceLeDiff, Nat.reduceEqDiff, Nat.reduceBEq, Int.reduceLE, Int.reduceLT, Int.reduceToNat, Int.reduceMul, Int.reduceAdd, Int.reduceSub, Int.reduceNeg, Int.reduceEq, reduceCtorEq, Nat.reduceMod, Int.reduceBNe, Int.reduceBEq, Int.reduceGT, Int.reduceGE, Int.reduceNe, Int.cast_ofNat_Int, Int.natCast_zero, Int.natCast_one, bne_self_eq_false, gt_iff_lt, ge_iff_le, Int.lt_irrefl, Int.le_refl, viewV, c0, c1, opW, zeroW_cells]
    simp -implicitDefEqProofs only [go_sem, reduceIte, Nat.reduceAdd, Nat.reduceSub, Nat.reduceMul, Nat.reduceLT, Nat.reduceLeDiff, Nat.reduceEqDiff, Nat.reduceBEq, Int.reduceLE, Int.reduceLT, Int.reduceToNat, Int.reduceMul, Int.reduceAdd, Int.reduceSub, Int.reduceNeg, Int.reduceEq, reduceCtorEq, Nat.reduceMod, Int.reduceBNe, Int.reduceBEq, Int.reduceGT, Int.reduceGE, Int.reduceNe, Int.cast_ofNat_Int, Int.natCast_zero, Int.natCast_one, bne_self_eq_false, gt_iff_lt, ge_iff_le, Int.lt_irrefl, Int.le_refl, viewV, c0, c1]
    refine call_k (s_wal_view_synced l h) ?_ (by simp -implicitDefEqProofs only [go_sem, reduceIte, Nat.reduceAdd, Nat.reduceSub, Nat.reduceMul, Nat.reduceLT, Nat.reduceLeDiff, Nat.reduceEqDiff, Nat.reduceBEq, Int.reduceLE, Int.reduceLT, Int.reduceToNat, Int.reduceMul, Int.reduceAdd, Int.reduceSub, Int.reduceNeg, Int.reduceEq, reduceCtorEq, Nat.reduceMod, viewC])
    rw [syncV_eq h]
    by_cases c2 : l.first + ((scanL l.dev.syn).length : Int) < n
    · have ev : l.drop n = (zeroW, 32) := by
        have e1 : (l.first ≤ n ∧ n ≤ l.next) := by omega
        have e2 : ¬ n ≤ l.first + ((scanL l.dev.syn).length : Int) := by omega
        simp only [WLog.drop, if_pos h, if_pos e1, if_neg e2]
      rw [ev]
      simp -implicitDefEqProofs only [go_sem, reduceIte, Nat.reduceAdd, Nat.reduceSub, Nat.reduceMul, Nat.reduceLT, Nat.reduceLeDiff, Nat.reduceEqDiff, Nat.reduceBEq, Int.reduceLE, Int.reduceLT, Int.reduceToNat, Int.reduceMul, Int.reduceAdd, Int.reduceSub, Int.reduceNeg, Int.reduceEq, reduceCtorEq, Nat.reduceMod, Int.reduceBNe, Int.reduceBEq, Int.reduceGT, Int.reduceGE, Int.reduceNe, Int.cast_ofNat_Int, Int.natCast_zero, Int.natCast_one, bne_self_eq_false, gt_iff_lt, ge_iff_le, Int.lt_irrefl, Int.le_refl, c2, opW, zeroW_cells]
    obtain ⟨m, hm⟩ : ∃ m : Nat, n = l.first + m := ⟨(n - l.first).toNat, by omega⟩
    have ev : l.drop n = (⟨(l.dev.drop (catR (l.recs.take m)).length).1, n, l.next⟩, 0) := by
      have e1 : (l.first ≤ n ∧ n ≤ l.next) := by omega
      have e2 : n ≤ l.first + ((scanL l.dev.syn).length : Int) := by omega
      have e3 : (n - l.first).toNat = m := by omega
      simp only [WLog.drop, if_pos h, if_pos e1, if_pos e2, e3]
    have hfit := syn_fit h (m := m) (by omega)
    have he := drop_e h hfit
    rw [ev]
    subst hm
    have hcb : (catR (l.recs.take m)).length ≤ 100000 := by have := hl.1.1; omega
    simp -implicitDefEqProofs only [go_sem, reduceIte, Nat.reduceAdd, Nat.reduceSub, Nat.reduceMul, Nat.reduceLT, Nat.reduceLeDiff, Nat.reduceEqDiff, Nat.reduceBEq, Int.reduceLE, Int.reduceLT, Int.reduceToNat, Int.reduceMul, Int.reduceAdd, Int.reduceSub, Int.reduceNeg, Int.reduceEq, reduceCtorEq, Nat.reduceMod, Int.reduceBNe, Int.reduceBEq, Int.reduceGT, Int.reduceGE, Int.reduceNe, Int.cast_ofNat_Int, Int.natCast_zero, Int.natCast_one, bne_self_eq_false, gt_iff_lt, ge_iff_le, Int.lt_irrefl, Int.le_refl, c2]
    first | refine call_d (s_wal_view_size l h m (by omega)) ?_ (by simp -implicitDefEqProofs only [go_sem, reduceIte, Nat.reduceAdd, Nat.reduceSub, Nat.reduceMul, Nat.reduceLT, Nat.reduceLeDiff, Nat.reduceEqDiff, Nat.reduceBEq, Int.reduceLE, Int.reduceLT, Int.reduceToNat, Int.reduceMul, Int.reduceAdd, Int.reduceSub, Int.reduceNeg, Int.reduceEq, reduceCtorEq, Nat.reduceMod, viewC]) | refine call_k (s_wal_view_size l h m (by omega)) ?_ (by simp -implicitDefEqProofs only [go_sem, reduceIte, Nat.reduceAdd, Nat.reduceSub, Nat.reduceMul, Nat.reduceLT, Nat.reduceLeDiff, Nat.reduceEqDiff, Nat.reduceBEq, Int.reduceLE, Int.reduceLT, Int.reduceToNat, Int.reduceMul, Int.reduceAdd, Int.reduceSub, Int.reduceNeg, Int.reduceEq, reduceCtorEq, Nat.reduceMod, viewC])
    simp -implicitDefEqProofs only [go_sem, reduceIte, Nat.reduceAdd, Nat.reduceSub, Nat.reduceMul, Nat.reduceLT, Nat.reduceLeDiff, Nat.reduceEqDiff, Nat.reduceBEq, Int.reduceLE, Int.reduceLT, Int.reduceToNat, Int.reduceMul, Int.reduceAdd, Int.reduceSub, Int.reduceNeg, Int.reduceEq, reduceCtorEq, Nat.reduceMod, Int.reduceBNe, Int.reduceBEq, Int.reduceGT, Int.reduceGE, Int.reduceNe, Int.cast_ofNat_Int, Int.natCast_zero, Int.natCast_one, bne_self_eq_false, gt_iff_lt, ge_iff_le, Int.lt_irrefl, Int.le_refl]
    first | refine call_d (s_disk_Drop l.dev (((catR (l.recs.take m)).length : Nat) : Int) hl.1 (by omega) (by omega)) ?_ | refine call_k (s_disk_Drop l.dev (((catR (l.recs.take m)).length : Nat) : Int) hl.1 (by omega) (by omega)) ?_
    generalize l.dev.drop (((catR (l.recs.take m)).length : Nat) : Int) = p at he
    simp -implicitDefEqProofs only [go_sem, reduceIte, Nat.reduceAdd, Nat.reduceSub, Nat.reduceMul, Nat.reduceLT, Nat.reduceLeDiff, Nat.reduceEqDiff, Nat.reduceBEq, Int.reduceLE, Int.reduceLT, Int.reduceToNat, Int.reduceMul, Int.reduceAdd, Int.reduceSub, Int.reduceNeg, Int.reduceEq, reduceCtorEq, Nat.reduceMod, Int.reduceBNe, Int.reduceBEq, Int.reduceGT, Int.reduceGE, Int.reduceNe, Int.cast_ofNat_Int, Int.natCast_zero, Int.natCast_one, bne_self_eq_false, gt_iff_lt, ge_iff_le, Int.lt_irrefl, Int.le_refl, opR, he]
    first | refine call_ud (s_wal_with p.1 (l.first + (m : Int)) l.next) ?_ | refine call_u (s_wal_with p.1 (l.first + (m : Int)) l.next) ?_
    simp -implicitDefEqProofs only [go_sem, reduceIte, Nat.reduceAdd, Nat.reduceSub, Nat.reduceMul, Nat.reduceLT, Nat.reduceLeDiff, Nat.reduceEqDiff, Nat.reduceBEq, Int.reduceLE, Int.reduceLT, Int.reduceToNat, Int.reduceMul, Int.reduceAdd, Int.reduceSub, Int.reduceNeg, Int.reduceEq, reduceCtorEq, Nat.reduceMod, Int.reduceBNe, Int.reduceBEq, Int.reduceGT, Int.reduceGE, Int.reduceNe, Int.cast_ofNat_Int, Int.natCast_zero, Int.natCast_one, bne_self_eq_false, gt_iff_lt, ge_iff_le, Int.lt_irrefl, Int.le_refl, opW, he]
  · have ev : l.drop n = (zeroW, 8) := if_neg h
    rw [ev]
    simp -implicitDefEqProofs only [go_sem, reduceIte, Nat.reduceAdd, Nat.reduceSub, Nat.reduceMul, Nat.reduceLT, Nat.reduceLeDiff, Nat.reduceEqDiff, Nat.reduceBEq, Int.reduceLE, Int.reduceLT, Int.reduceToNat, Int.reduceMul, Int.reduceAdd, Int.reduceSub, Int.reduceNeg, Int.reduceEq, reduceCtorEq, Nat.reduceMod, Int.reduceBNe, Int.reduceBEq, Int.reduceGT, Int.reduceGE, Int.reduceNe, Int.cast_ofNat_Int, Int.natCast_zero, Int.natCast_one, bne_self_eq_false, gt_iff_lt, ge_iff_le, Int.lt_irrefl, Int.le_refl]
    refine call_k (s_wal_look_bad l hl h) ?_
    simp -implicitDefEqProofs only [go_sem, reduceIte, Nat.reduceAdd, Nat.reduceSub, Nat.reduceMul, Nat.reduceLT, Nat.reduceLeDiff, Nat.reduceEqDiff, Nat.reduceBEq, Int.reduceLE, Int.reduceLT, Int.reduceToNat, Int.reduceMul, Int.reduceAdd, Int.reduceSub, Int.reduceNeg, Int.reduceEq, reduceCtorEq, Nat.reduceMod, Int.reduceBNe, Int.reduceBEq, Int.reduceGT, Int.reduceGE, Int.reduceNe, Int.cast_ofNat_Int, Int.natCast_zero, Int.natCast_one, bne_self_eq_false, gt_iff_lt, ge_iff_le, Int.lt_irrefl, Int.le_refl, zeroV, opW, zeroW_cells]
end Go.Proofs.Ytdpnjhooehadmaa.Pm
