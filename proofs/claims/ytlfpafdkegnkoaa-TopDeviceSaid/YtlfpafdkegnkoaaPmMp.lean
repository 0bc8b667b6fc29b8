/- Texts of this proof in one file: PmOb, PmOc, PmOd, PmOa, PmOe, PmOg. No law of Go's is stated here. -/
import Derived.Test.YtlfpafdkegnkoaaPmMe
import Derived.Test.YtlfpafdkegnkoaaPmQs
import Derived.Test.YtlfpafdkegnkoaaPmMo
import Derived.Test.YtlfpafdkegnkoaaPmMg
import Derived.Test.YtlfpafdkegnkoaaPmMd
import Derived.Test.YtlfpafdkegnkoaaPmMm
set_option linter.all false
set_option maxRecDepth 100000
set_option maxHeartbeats 4000000
namespace Go.Proofs.Ytlfpafdkegnkoaa.Pm
open Go Go.RowKit
theorem fd_8 (c : BitVec 32) : (((c >>> 8).setWidth 8).toNat : Int) = IntKind.u8.wrap ((c.toNat : Int).fdiv 256) := by
  rw [IntKind.wrap_u8', BitVec.toNat_setWidth, BitVec.toNat_ushiftRight, Nat.shiftRight_eq_div_pow, Int.fdiv_eq_ediv_of_nonneg _ (by omega)]; omega
theorem fd_16 (c : BitVec 32) : (((c >>> 16).setWidth 8).toNat : Int) = IntKind.u8.wrap ((c.toNat : Int).fdiv 65536) := by
  rw [IntKind.wrap_u8', BitVec.toNat_setWidth, BitVec.toNat_ushiftRight, Nat.shiftRight_eq_div_pow, Int.fdiv_eq_ediv_of_nonneg _ (by omega)]; omega
theorem fd_24 (c : BitVec 32) : (((c >>> 24).setWidth 8).toNat : Int) = IntKind.u8.wrap ((c.toNat : Int).fdiv 16777216) := by
  rw [IntKind.wrap_u8', BitVec.toNat_setWidth, BitVec.toNat_ushiftRight, Nat.shiftRight_eq_div_pow, Int.fdiv_eq_ediv_of_nonneg _ (by omega)]; omega
theorem s_top_summed06 (h d : List (BitVec 8)) (h8 : h.length = 8) (hd : d.length ≤ 1000) : Spec Try.prog 12 [.sl (bT (h ++ fourL (updV 0#32 (h ++ d)) ++ d))] [] (.t (.b true) true) := by
  refine spec_k (hold mixed) b_top_summed06 [(.b true, true)] ?_
  generalize hc : updV 0#32 (h ++ d) = c
  have hS := s_crc_Sum' (h ++ d) (by rw [List.length_append]; omega)
  rw [hc] at hS
  have hl : (h ++ fourL c ++ d).length = d.length + 12 := by rw [List.length_append, List.length_append, h8]; simp [fourL_length]; omega
  have t8 : List.take 8 (bT (h ++ fourL c ++ d)) = bT h := by
    rw [bT_append, bT_append, List.append_assoc, List.take_left' (by rw [bT_length, h8])]
  have d12 : List.drop 12 (bT (h ++ fourL c ++ d)) = bT d := by
    rw [bT_append, List.drop_left' (by rw [bT_length, List.length_append, h8]; rfl)]
  have g8 : (bT (h ++ fourL c ++ d))[8]? = some [.i .u8 (c.setWidth 8).toNat] := by
    match h, h8 with | [b0, b1, b2, b3, b4, b5, b6, b7], _ => rfl
  have g9 : (bT (h ++ fourL c ++ d))[9]? = some [.i .u8 ((c >>> 8).setWidth 8).toNat] := by
    match h, h8 with | [b0, b1, b2, b3, b4, b5, b6, b7], _ => rfl
  have g10 : (bT (h ++ fourL c ++ d))[10]? = some [.i .u8 ((c >>> 16).setWidth 8).toNat] := by
    match h, h8 with | [b0, b1, b2, b3, b4, b5, b6, b7], _ => rfl
  have g11 : (bT (h ++ fourL c ++ d))[11]? = some [.i .u8 ((c >>> 24).setWidth 8).toNat] := by
    match h, h8 with | [b0, b1, b2, b3, b4, b5, b6, b7], _ => rfl
  generalize h ++ fourL c ++ d = B at *
  have l12 : (((B.length : Nat) : Int) < 12) = False := eq_false (by omega)
  have n12 : (((B.length : Nat) : Int) - 12).toNat = d.length := by omega
  have hr := hd
  simp -implicitDefEqProofs only [go_sem, seval, sk, bT_length, l12, t8, d12, n12, bT_take_self, h8]
  refine ⟨⟨by omega, Or.inl trivial⟩, ⟨okEs_bT h, by unfold room; omega⟩, ⟨by omega, okEs_bT B⟩, ⟨okEs_bT d, by unfold room; omega⟩, ?_⟩
  have th : List.take 8 (bT h) = bT h := List.take_of_length_le (by rw [bT_length]; omega)
  have tt : List.take (8 + d.length) (bT h ++ bT d) = bT h ++ bT d := List.take_of_length_le (by rw [List.length_append, bT_length, bT_length]; omega)
  refine call_d hS ?_ (by simp -implicitDefEqProofs only [go_sem, seval, sk, th, tt, bT_append]; rw [List.length_append, bT_length, bT_length]; omega)
  simp -implicitDefEqProofs only [go_sem, seval, sk, g8, g9, g10, g11, bT_length, fd_8, fd_16, fd_24, beq_self_eq_true]
set_option maxHeartbeats 8000000
def A0 : Jr := (newJ 500).1
def A1 : Jr := (doJ A0 (2, 4)).1
def A2 : Jr := (saveJ A1).1
def A3 : Jr := (doJ A2 (2, 1)).1
def A4 : Jr := (crashJ A3 0 0).1
def A5 : Jr := (recoverJ A4).1
theorem fineA0 : A0.fine := by decide +kernel
theorem fineA1 : A1.fine := by decide +kernel
theorem fineA2 : A2.fine := by decide +kernel
theorem fineA3 : A3.fine := by decide +kernel
theorem fineA4 : A4.s.fine ∧ A4.l.dev.small ∧ A4.c.length = 8 := by decide +kernel
theorem topA0 : newJ 500 = (A0, 0) := by decide +kernel
theorem topA1 : doJ A0 (2, 4) = (A1, 0, 0) := by decide +kernel
theorem topA2 : saveJ A1 = (A2, 0) := by decide +kernel
theorem topA3 : doJ A2 (2, 1) = (A3, 1, 0) := by decide +kernel
theorem topA4 : crashJ A3 0 0 = (A4, 0) := by decide +kernel
theorem topA5 : recoverJ A4 = (A5, 1, 0) := by decide +kernel
theorem topAc : A0.c = z8 ∧ A1.c = [0, 0, 4, 0, 0, 0, 0, 0] ∧ A2.c = [0, 0, 4, 0, 0, 0, 0, 0] ∧ A3.c = [0, 0, 5, 0, 0, 0, 0, 0] ∧ A4.c = z8 ∧ A5.c = [0, 0, 4, 0, 0, 0, 0, 0] := by decide +kernel
theorem clT_a4 : clT [0, 0, 4, 0, 0, 0, 0, 0] = [.i .i64 0, .i .i64 0, .i .i64 4, .i .i64 0, .i .i64 0, .i .i64 0, .i .i64 0, .i .i64 0] := rfl
theorem clT_a5 : clT [0, 0, 5, 0, 0, 0, 0, 0] = [.i .i64 0, .i .i64 0, .i .i64 5, .i .i64 0, .i .i64 0, .i .i64 0, .i .i64 0, .i .i64 0] := rfl
theorem s_top_alive06 : Spec Try.prog 5 [] [] (.t (.b true) true) := by
  refine spec_k (hold mixed) b_top_alive06 [(.b true, true)] ?_
  have g0 := s_journal_New 500
  have g1 := s_journal_Do A0 fineA0 (2, 4) (by decide) (by decide)
  have g2 := s_journal_Save A1 fineA1
  have g3 := s_journal_Do A2 fineA2 (2, 1) (by decide) (by decide)
  have g4 := s_journal_Crash A3 fineA3 0 0 (by decide) (by decide) (by decide) (by decide)
  have g5 := s_journal_Recover A4 fineA4.1 fineA4.2.1 fineA4.2.2
  rw [topA0] at g0
  rw [topA1] at g1
  rw [topA2] at g2
  rw [topA3] at g3
  rw [topA4] at g4
  rw [topA5] at g5
  obtain ⟨c0, c1, c2, c3, c4, c5⟩ := topAc
  generalize A0 = a0 at *
  generalize A1 = a1 at *
  generalize A2 = a2 at *
  generalize A3 = a3 at *
  generalize A4 = a4 at *
  generalize A5 = a5 at *
  obtain ⟨s0, w0, d0⟩ := a0
  obtain ⟨s1, w1, d1⟩ := a1
  obtain ⟨s2, w2, d2⟩ := a2
  obtain ⟨s3, w3, d3⟩ := a3
  obtain ⟨s4, w4, d4⟩ := a4
  obtain ⟨s5, w5, d5⟩ := a5
  simp only at c0 c1 c2 c3 c4 c5
  subst c0 c1 c2 c3 c4 c5
  simp -implicitDefEqProofs only [go_sem, seval, sk]
  first | refine call_k g0 ?_ (by simp -implicitDefEqProofs only [go_sem, seval, sk]) (by simp -implicitDefEqProofs only [go_sem, seval, sk, opJ]) | refine call_d g0 ?_ (by simp -implicitDefEqProofs only [go_sem, seval, sk]) (by simp -implicitDefEqProofs only [go_sem, seval, sk, opJ])
  simp -implicitDefEqProofs only [go_sem, seval, sk, opJ, Jr.cells, z8_T]
  first | refine call_k g1 ?_ (by simp -implicitDefEqProofs only [go_sem, seval, sk, Jr.cells, mT, z8_T]) (by simp -implicitDefEqProofs only [go_sem, seval, sk, opJ3]) | refine call_d g1 ?_ (by simp -implicitDefEqProofs only [go_sem, seval, sk, Jr.cells, mT, z8_T]) (by simp -implicitDefEqProofs only [go_sem, seval, sk, opJ3])
  simp -implicitDefEqProofs only [go_sem, seval, sk, opJ3, Jr.cells, clT_a4]
  first | refine call_k g2 ?_ (by simp -implicitDefEqProofs only [go_sem, seval, sk, Jr.cells, clT_a4]) (by simp -implicitDefEqProofs only [go_sem, seval, sk, opJ]) | refine call_d g2 ?_ (by simp -implicitDefEqProofs only [go_sem, seval, sk, Jr.cells, clT_a4]) (by simp -implicitDefEqProofs only [go_sem, seval, sk, opJ])
  simp -implicitDefEqProofs only [go_sem, seval, sk, opJ, Jr.cells, clT_a4]
  first | refine call_k g3 ?_ (by simp -implicitDefEqProofs only [go_sem, seval, sk, Jr.cells, mT, clT_a4]) (by simp -implicitDefEqProofs only [go_sem, seval, sk, opJ3]) | refine call_d g3 ?_ (by simp -implicitDefEqProofs only [go_sem, seval, sk, Jr.cells, mT, clT_a4]) (by simp -implicitDefEqProofs only [go_sem, seval, sk, opJ3])
  simp -implicitDefEqProofs only [go_sem, seval, sk, opJ3, Jr.cells, clT_a5]
  first | refine call_k g4 ?_ (by simp -implicitDefEqProofs only [go_sem, seval, sk, Jr.cells, clT_a5]) (by simp -implicitDefEqProofs only [go_sem, seval, sk, opJ]) | refine call_d g4 ?_ (by simp -implicitDefEqProofs only [go_sem, seval, sk, Jr.cells, clT_a5]) (by simp -implicitDefEqProofs only [go_sem, seval, sk, opJ])
  simp -implicitDefEqProofs only [go_sem, seval, sk, opJ, Jr.cells, z8_T]
  first | refine call_k g5 ?_ (by simp -implicitDefEqProofs only [go_sem, seval, sk, Jr.cells, z8_T]) (by simp -implicitDefEqProofs only [go_sem, seval, sk, opJ3]) | refine call_d g5 ?_ (by simp -implicitDefEqProofs only [go_sem, seval, sk, Jr.cells, z8_T]) (by simp -implicitDefEqProofs only [go_sem, seval, sk, opJ3])
  simp -implicitDefEqProofs only [go_sem, seval, sk, opJ3, Jr.cells, clT_a4]
theorem s_crashed_arg (j : Jr) (hj : j.fine) (d : Dev) (hd : d.small) (saved keep : Int) (k0 : -9223372036854775808 ≤ keep) (k1 : keep < 9223372036854775808)
    (h : (crashJ j 0 keep).2 = 2) (hk : keep < 0 ∨ (d.tail.length : Int) < keep) :
    Spec Try.prog 17 [.agg j.cells, .agg d.cells, .i .i64 saved, .i .i64 keep] [] (.t (.b true) true) := by
  refine spec_k (hold mixed) b_top_crashed06 [(.b true, true)] ?_
  have hC := s_journal_Crash j hj 0 keep (by decide) (by decide) k0 k1
  obtain ⟨f1, f2, f3⟩ := crashJ_fine hj 0 keep
  have h8 := hj.2.2.1
  generalize crashJ j 0 keep = p at *
  obtain ⟨c, e1⟩ := p
  simp only at h f3
  subst h
  have htk := clF_take (l := false) h8
  have tlen : ((bT d.tail).length : Nat) = d.tail.length := bT_length _
  simp -implicitDefEqProofs only [go_sem, seval, sk, Jr.cells, clF_map]
  refine ⟨by omega, ?_⟩
  first | refine call_k hC ?_ (by simp -implicitDefEqProofs only [go_sem, seval, sk, Jr.cells, htk]) (by simp -implicitDefEqProofs only [go_sem, seval, sk, opJ]) | refine call_d hC ?_ (by simp -implicitDefEqProofs only [go_sem, seval, sk, Jr.cells, htk]) (by simp -implicitDefEqProofs only [go_sem, seval, sk, opJ])
  simp -implicitDefEqProofs only [go_sem, seval, sk, opJ, Jr.cells, clF_map, f3]
  refine ⟨clF_one _ _, ?_⟩
  by_cases hn : keep < 0
  · simp -implicitDefEqProofs only [go_sem, seval, sk, hn]
  · have hg : ((d.tail.length : Nat) : Int) < keep := by omega
    simp -implicitDefEqProofs only [go_sem, seval, sk, hn, hg, bT_length]
theorem s_crashed_ok (j : Jr) (hj : j.fine) (d : Dev) (hd : d.small) (saved keep n : Int) (k0 : 0 ≤ keep) (k1 : keep ≤ d.tail.length) (c r : Jr) (dv : Dev) (w : WLog) (xs : List (BitVec 8))
    (hx : (d.syn ++ d.tail).take (d.syn.length + keep.toNat) = xs) (hl : xs.length ≤ 20000) (s0 : 0 ≤ saved) (s1 : saved ≤ 1000)
    (hc : crashJ j 0 keep = (c, 0)) (hr : recoverJ c = (r, n, 0)) (hn : n = saved + (scanL xs).length)
    (hv : j.l.crash keep = (dv, 0)) (hw : openW dv saved = (w, 0)) (hq : recR w w.first = (scanL xs, 0)) (hnx : r.l.next = w.next) (hs : sameD r.l.dev w.dev = true)
    (vs : dv.small) (wf : w.fine) (rs : r.l.dev.small) (rd : ∀ q ∈ scanL xs, q.data.length ≤ 1000000) (rn : (scanL xs).length ≤ 20000) :
    Spec Try.prog 17 [.agg j.cells, .agg d.cells, .i .i64 saved, .i .i64 keep] [] (.t (.b true) true) := by
  refine spec_k (hold mixed) b_top_crashed06 [(.b true, true)] ?_
  have kk : d.tail.length ≤ 100000 := hd.2
  have kk' : d.syn.length ≤ 100000 := hd.1
  have hC := s_journal_Crash j hj 0 keep (by decide) (by decide) (by omega) (by omega)
  obtain ⟨f1, f2, f3⟩ := crashJ_fine hj 0 keep
  rw [hc] at hC f1 f2 f3
  simp only at f1 f2 f3
  have hR := s_journal_Recover c f1 f2 f3
  have hlr := recoverJ_len (j := c)
  rw [hr] at hR hlr
  simp only at hlr
  have hV := s_wal_Crash j.l hj.2.1 keep (by omega) (by omega)
  rw [hv] at hV
  have hO := s_wal_Open dv vs saved (by omega) (by omega)
  rw [hw] at hO
  have hQ := s_wal_Records w wf w.first wf.2.1 wf.2.2.1
  rw [hq] at hQ
  have hF := s_frame_Scan_ok xs hl
  have hY := s_ref03_Same (scanL xs) (scanL xs) (by omega) rd rd
  rw [decide_eq_true rfl] at hY
  have hZ := s_ref01_Same r.l.dev w.dev rs wf.1
  rw [hs] at hZ
  have hW := s_ref01_Whole d hd
  have h8 := hj.2.2.1
  have htk := clF_take (l := false) h8
  have htc := clF_take (l := true) f3
  have hn0 : ¬ keep < 0 := by omega
  have hn1 : ¬ ((d.tail.length : Nat) : Int) < keep := by omega
  simp -implicitDefEqProofs only [go_sem, seval, sk, Jr.cells, clF_map]
  refine ⟨by omega, ?_⟩
  first | refine call_k hC ?_ (by simp -implicitDefEqProofs only [go_sem, seval, sk, Jr.cells, htk]) (by simp -implicitDefEqProofs only [go_sem, seval, sk, opJ]) | refine call_d hC ?_ (by simp -implicitDefEqProofs only [go_sem, seval, sk, Jr.cells, htk]) (by simp -implicitDefEqProofs only [go_sem, seval, sk, opJ])
  simp -implicitDefEqProofs only [go_sem, seval, sk, opJ, Jr.cells, clF_map, f3]
  refine ⟨clF_one _ _, ?_⟩
  first | refine call_k hW ?_ (by simp -implicitDefEqProofs only [go_sem, seval, sk, Dev.cells]) | refine call_d hW ?_ (by simp -implicitDefEqProofs only [go_sem, seval, sk, Dev.cells])
  have hwk : IntKind.i64.wrap ((d.syn.length : Int) + keep) = (d.syn.length : Int) + keep := wrap_i64_id (by omega) (by omega)
  have hla : (d.syn ++ d.tail).length = d.syn.length + d.tail.length := List.length_append
  simp -implicitDefEqProofs only [go_sem, seval, sk, hn0, hn1, bT_length, hwk]
  refine ⟨⟨by omega, by rw [hla]; omega⟩, ?_⟩
  have hto : ((d.syn.length : Int) + keep - 0).toNat = d.syn.length + keep.toNat := by omega
  have htx : List.take (d.syn.length + keep.toNat) (bT (d.syn ++ d.tail)) = bT xs := by rw [← hx, bT_takeN]
  first | refine call_k hF ?_ (by simp -implicitDefEqProofs only [go_sem, seval, sk, hto, htx]; rw [hla]; omega) | refine call_d hF ?_ (by simp -implicitDefEqProofs only [go_sem, seval, sk, hto, htx]; rw [hla]; omega)
  simp -implicitDefEqProofs only [go_sem, seval, sk, f3, htc]
  first | refine call_k hR ?_ (by simp -implicitDefEqProofs only [go_sem, seval, sk, Jr.cells]) (by simp -implicitDefEqProofs only [go_sem, seval, sk, opJ3]) | refine call_d hR ?_ (by simp -implicitDefEqProofs only [go_sem, seval, sk, Jr.cells]) (by simp -implicitDefEqProofs only [go_sem, seval, sk, opJ3])
  have hwn : IntKind.i64.wrap (saved + ((scanL xs).length : Nat)) = n := by rw [hn]; exact wrap_i64_id (by omega) (by omega)
  simp -implicitDefEqProofs only [go_sem, seval, sk, opJ3, Jr.cells, clF_map, hlr]
  refine ⟨clF_one _ _, ?_⟩
  simp -implicitDefEqProofs only [go_sem, seval, sk, recsT_length, hwn, bne_self_eq_false]
  first | refine call_k hV ?_ (by simp -implicitDefEqProofs only [go_sem, seval, sk, WLog.cells]) (by simp -implicitDefEqProofs only [go_sem, seval, sk, opR]) | refine call_d hV ?_ (by simp -implicitDefEqProofs only [go_sem, seval, sk, WLog.cells]) (by simp -implicitDefEqProofs only [go_sem, seval, sk, opR])
  simp -implicitDefEqProofs only [go_sem, seval, sk, opR, Dev.cells]
  first | refine call_k hO ?_ (by simp -implicitDefEqProofs only [go_sem, seval, sk, Dev.cells]) (by simp -implicitDefEqProofs only [go_sem, seval, sk, opW]) | refine call_d hO ?_ (by simp -implicitDefEqProofs only [go_sem, seval, sk, Dev.cells]) (by simp -implicitDefEqProofs only [go_sem, seval, sk, opW])
  simp -implicitDefEqProofs only [go_sem, seval, sk, opW, WLog.cells]
  first | refine call_k hQ ?_ (by simp -implicitDefEqProofs only [go_sem, seval, sk, WLog.cells]) (by simp -implicitDefEqProofs only [go_sem, seval, sk, recT]) | refine call_d hQ ?_ (by simp -implicitDefEqProofs only [go_sem, seval, sk, WLog.cells]) (by simp -implicitDefEqProofs only [go_sem, seval, sk, recT])
  simp -implicitDefEqProofs only [go_sem, seval, sk, recT]
  first | refine call_k hY ?_ | refine call_d hY ?_
  simp -implicitDefEqProofs only [go_sem, seval, sk, hnx, beq_self_eq_true]
  first | refine call_k hZ ?_ (by simp -implicitDefEqProofs only [go_sem, seval, sk, Dev.cells]) | refine call_d hZ ?_ (by simp -implicitDefEqProofs only [go_sem, seval, sk, Dev.cells])
  simp -implicitDefEqProofs only [go_sem, seval, sk]
set_option maxHeartbeats 2000000
structure DOp where
  kind : Nat
  data : List (BitVec 8)
  n : Int
  deriving DecidableEq
def DOp.cells (o : DOp) : List T := [.i .u8 o.kind, .sl (bT o.data), .i .i64 o.n]
def DOp.fine (o : DOp) : Prop := o.data.length ≤ 100000 ∧ -9223372036854775808 ≤ o.n ∧ o.n < 9223372036854775808
def Dev.step (d : Dev) (o : DOp) : Dev × Int :=
  if o.kind = 1 then (if o.n = 0 then d.app o.data else (zeroD, 2))
  else if 0 < o.data.length then (zeroD, 2)
  else if o.kind = 3 then d.trunc o.n
  else if o.kind = 4 then d.drop o.n
  else if o.kind = 5 then d.crash o.n
  else if o.n = 0 then (if o.kind = 2 then d.sync else if o.kind = 6 then d.start else (zeroD, 2))
  else (zeroD, 2)
theorem s_disk_step (d : Dev) (o : DOp) (hd : d.small) (ho : o.fine) : Spec Try.prog 41 [.agg d.cells, .agg o.cells] [] (resV ((opR (d.step o)).map AV.ofT)) := by
  refine spec_k (hold mixed) b_disk_step (opR (d.step o)) ?_
  obtain ⟨k, xs, n⟩ := o
  obtain ⟨ho1, ho2, ho3⟩ := ho
  replace ho1 : xs.length ≤ 100000 := ho1
  replace ho2 : -9223372036854775808 ≤ n := ho2
  replace ho3 : n < 9223372036854775808 := ho3
  have hx : ((xs.length : Int) > 0) = (0 < xs.length) := propext (by omega)
  by_cases c1 : k = 1
  · subst c1
    by_cases hn : n = 0
    · have ev : d.step ⟨1, xs, n⟩ = d.app xs := by simp [Dev.step, hn]
      rw [ev]
      simp -implicitDefEqProofs only [go_sem, seval, sk, Int.cast_ofNat_Int, Int.natCast_zero, Int.natCast_one, DOp.cells, hx, hn]
      refine call_k (s_disk_Append d xs hd ho1) ?_
      simp -implicitDefEqProofs only [go_sem, seval]
    · have hnb : (n != 0) = true := by simpa using hn
      have ev : d.step ⟨1, xs, n⟩ = (zeroD, 2) := by simp [Dev.step, hn]
      rw [ev]
      simp -implicitDefEqProofs only [go_sem, seval, sk, Int.cast_ofNat_Int, Int.natCast_zero, Int.natCast_one, DOp.cells, hx, hnb, zeroD_cells]
  by_cases c2 : k = 2
  · subst c2
    by_cases hl : 0 < xs.length
    · have ev : d.step ⟨2, xs, n⟩ = (zeroD, 2) := by simp [Dev.step, hl]
      rw [ev]
      simp -implicitDefEqProofs only [go_sem, seval, sk, Int.cast_ofNat_Int, Int.natCast_zero, Int.natCast_one, DOp.cells, hx, hl, zeroD_cells]
    by_cases hn : n = 0
    · have ev : d.step ⟨2, xs, n⟩ = d.sync := by simp [Dev.step, hl, hn]
      rw [ev]
      simp -implicitDefEqProofs only [go_sem, seval, sk, Int.cast_ofNat_Int, Int.natCast_zero, Int.natCast_one, DOp.cells, hx, hl, hn]
      refine call_k (s_disk_Sync d hd) ?_
      simp -implicitDefEqProofs only [go_sem, seval]
    · have hnb : (n != 0) = true := by simpa using hn
      have ev : d.step ⟨2, xs, n⟩ = (zeroD, 2) := by simp [Dev.step, hl, hn]
      rw [ev]
      simp -implicitDefEqProofs only [go_sem, seval, sk, Int.cast_ofNat_Int, Int.natCast_zero, Int.natCast_one, DOp.cells, hx, hl, hnb, zeroD_cells]
  by_cases c3 : k = 3
  · subst c3
    by_cases hl : 0 < xs.length
    · have ev : d.step ⟨3, xs, n⟩ = (zeroD, 2) := by simp [Dev.step, hl]
      rw [ev]
      simp -implicitDefEqProofs only [go_sem, seval, sk, Int.cast_ofNat_Int, Int.natCast_zero, Int.natCast_one, DOp.cells, hx, hl, zeroD_cells]
    · have ev : d.step ⟨3, xs, n⟩ = d.trunc n := by simp [Dev.step, hl]
      rw [ev]
      simp -implicitDefEqProofs only [go_sem, seval, sk, Int.cast_ofNat_Int, Int.natCast_zero, Int.natCast_one, DOp.cells, hx, hl]
      refine call_k (s_disk_Truncate d n hd ho2 ho3) ?_
      simp -implicitDefEqProofs only [go_sem, seval]
  by_cases c4 : k = 4
  · subst c4
    by_cases hl : 0 < xs.length
    · have ev : d.step ⟨4, xs, n⟩ = (zeroD, 2) := by simp [Dev.step, hl]
      rw [ev]
      simp -implicitDefEqProofs only [go_sem, seval, sk, Int.cast_ofNat_Int, Int.natCast_zero, Int.natCast_one, DOp.cells, hx, hl, zeroD_cells]
    · have ev : d.step ⟨4, xs, n⟩ = d.drop n := by simp [Dev.step, hl]
      rw [ev]
      simp -implicitDefEqProofs only [go_sem, seval, sk, Int.cast_ofNat_Int, Int.natCast_zero, Int.natCast_one, DOp.cells, hx, hl]
      refine call_k (s_disk_Drop d n hd ho2 ho3) ?_
      simp -implicitDefEqProofs only [go_sem, seval]
  by_cases c5 : k = 5
  · subst c5
    by_cases hl : 0 < xs.length
    · have ev : d.step ⟨5, xs, n⟩ = (zeroD, 2) := by simp [Dev.step, hl]
      rw [ev]
      simp -implicitDefEqProofs only [go_sem, seval, sk, Int.cast_ofNat_Int, Int.natCast_zero, Int.natCast_one, DOp.cells, hx, hl, zeroD_cells]
    · have ev : d.step ⟨5, xs, n⟩ = d.crash n := by simp [Dev.step, hl]
      rw [ev]
      simp -implicitDefEqProofs only [go_sem, seval, sk, Int.cast_ofNat_Int, Int.natCast_zero, Int.natCast_one, DOp.cells, hx, hl]
      refine call_k (s_disk_Crash d n hd ho2 ho3) ?_
      simp -implicitDefEqProofs only [go_sem, seval]
  by_cases c6 : k = 6
  · subst c6
    by_cases hl : 0 < xs.length
    · have ev : d.step ⟨6, xs, n⟩ = (zeroD, 2) := by simp [Dev.step, hl]
      rw [ev]
      simp -implicitDefEqProofs only [go_sem, seval, sk, Int.cast_ofNat_Int, Int.natCast_zero, Int.natCast_one, DOp.cells, hx, hl, zeroD_cells]
    by_cases hn : n = 0
    · have ev : d.step ⟨6, xs, n⟩ = d.start := by simp [Dev.step, hl, hn]
      rw [ev]
      simp -implicitDefEqProofs only [go_sem, seval, sk, Int.cast_ofNat_Int, Int.natCast_zero, Int.natCast_one, DOp.cells, hx, hl, hn]
      refine call_k (s_disk_Start d hd) ?_
      simp -implicitDefEqProofs only [go_sem, seval]
    · have hnb : (n != 0) = true := by simpa using hn
      have ev : d.step ⟨6, xs, n⟩ = (zeroD, 2) := by simp [Dev.step, hl, hn]
      rw [ev]
      simp -implicitDefEqProofs only [go_sem, seval, sk, Int.cast_ofNat_Int, Int.natCast_zero, Int.natCast_one, DOp.cells, hx, hl, hnb, zeroD_cells]
  have q1 : ((k : Int) = 1) = False := eq_false (by omega)
  have q2 : ((k : Int) = 2) = False := eq_false (by omega)
  have q3 : ((k : Int) = 3) = False := eq_false (by omega)
  have q4 : ((k : Int) = 4) = False := eq_false (by omega)
  have q5 : ((k : Int) = 5) = False := eq_false (by omega)
  have q6 : ((k : Int) = 6) = False := eq_false (by omega)
  have b1 : ((k : Int) == 1) = false := by simp; omega
  have b2 : ((k : Int) == 2) = false := by simp; omega
  have b3 : ((k : Int) == 3) = false := by simp; omega
  have b4 : ((k : Int) == 4) = false := by simp; omega
  have b5 : ((k : Int) == 5) = false := by simp; omega
  have b6 : ((k : Int) == 6) = false := by simp; omega
  have n1 : ((k : Int) != 1) = true := by simp; omega
  have ev : d.step ⟨k, xs, n⟩ = (zeroD, 2) := by simp [Dev.step, c1, c2, c3, c4, c5, c6]
  rw [ev]
  by_cases hl : 0 < xs.length
  · simp -implicitDefEqProofs only [go_sem, seval, sk, DOp.cells, hx, hl, n1, zeroD_cells]
  by_cases hn : n = 0
  · simp -implicitDefEqProofs only [go_sem, seval, sk, DOp.cells, hx, hl, n1, b1, b2, b3, b4, b5, b6, hn, zeroD_cells]
  · have hnb : (n != 0) = true := by simpa using hn
    simp -implicitDefEqProofs only [go_sem, seval, sk, DOp.cells, hx, hl, n1, b1, b2, b3, b4, b5, b6, hnb, zeroD_cells]
def opsT (l : List DOp) : List (List T) := l.map DOp.cells
theorem opsT_length (l : List DOp) : (opsT l).length = l.length := by simp [opsT]
theorem opsT_get {l : List DOp} {k : Nat} (h : k < l.length) : (opsT l)[k]? = some l[k].cells := by simp [opsT, h]
theorem step_small (d : Dev) (o : DOp) : (d.step o).1.small := by
  unfold Dev.step
  split
  · split
    · exact app_small d _
    · exact zeroD_small
  split
  · exact zeroD_small
  split
  · exact trunc_small d _
  split
  · exact drop_small d _
  split
  · exact crash_small d _
  split
  · split
    · exact sync_small d
    · split
      · exact start_small d
      · exact zeroD_small
  · exact zeroD_small
def runO (d : Dev) : List DOp → Nat → Dev × Nat × Int
  | [], k => (d, k, 0)
  | o :: l, k => if (d.step o).2 = 0 then runO (d.step o).1 l (k + 1) else (d, k, (d.step o).2)
def Dev.run (d : Dev) (l : List DOp) : Dev × Nat × Int := if d.check = 0 then (if l.length ≤ 200 then runO d l 0 else (zeroD, 0, 4)) else (zeroD, 0, d.check)
def run3 (p : Dev × Nat × Int) : List (T × Bool) := [(.agg p.1.cells, true), (.i .i64 p.2.1, true), (.i .i64 p.2.2, true)]
attribute [go_sem] run3
theorem runO_at {d : Dev} {l : List DOp} {k : Nat} (h : k < l.length) : runO d (l.drop k) k = if (d.step l[k]).2 = 0 then runO (d.step l[k]).1 (l.drop (k + 1)) (k + 1) else (d, k, (d.step l[k]).2) := by
  rw [List.drop_eq_getElem_cons h, runO]
def runF (d : Dev) (l : List DOp) (k : Nat) (e : Dev) (fl : Bool) : S := ⟨tmL [(1, .t (.sl (opsT l)) false), (4, .ptr 1 0), (8, .ptr 2 0), (32, .t (.sl (opsT l)) false), (33, .t (.i .i64 l.length) true), (34, .t (.i .i64 k) true)],
  [.var [.t (.sl (bT d.syn)) false, .t (.sl (bT d.tail)) false, .t (.i .i64 d.cap) false, .t (.b d.down) false], .var [.nl, .nl, .t (.i .i64 0) true, .t (.b false) true],
   .var [.t (.sl (bT e.syn)) true, .t (.sl (bT e.tail)) true, .t (.i .i64 e.cap) true, .t (.b e.down) fl]]⟩
theorem s_disk_Run (d : Dev) (l : List DOp) (hd : d.small) (hl : ∀ o ∈ l, o.fine) (hn : l.length ≤ 140737488355328) : Spec Try.prog 14 [.agg d.cells, .sl (opsT l)] [] (resV ((run3 (d.run l)).map AV.ofT)) := by
  refine spec_k (hold mixed) b_disk_Run (run3 (d.run l)) ?_
  simp -implicitDefEqProofs only [go_sem, seval]
  refine call_k (s_disk_Check d hd) ?_
  have hc : d.check = 8 ∨ d.check = 0 := by unfold Dev.check; split <;> simp
  rcases hc with hc | hc
  · have ev : d.run l = (zeroD, 0, 8) := by simp [Dev.run, hc]
    rw [ev]
    simp -implicitDefEqProofs only [go_sem, seval, sk, hc, zeroD, bT, List.map]
    try rfl
  have e1 : ((l.length : Int) > 200) = (200 < l.length) := propext (by omega)
  by_cases h2 : 200 < l.length
  · have ev : d.run l = (zeroD, 0, 4) := by simp [Dev.run, hc]; omega
    rw [ev]
    simp -implicitDefEqProofs only [go_sem, seval, sk, hc, opsT_length, e1, h2, zeroD, bT, List.map]
    try rfl
  have ev : d.run l = runO d (l.drop 0) 0 := by rw [List.drop_zero]; simp [Dev.run, hc]; omega
  rw [ev]
  simp -implicitDefEqProofs only [go_sem, seval, sk, hc, opsT_length, e1, h2]
  refine call_k (s_disk_made d d.syn d.tail (by have := hd.1; omega) (by have := hd.2; omega)) ?_
  simp -implicitDefEqProofs only [go_sem, seval]
  refine loop_l (α := Nat × Dev × Bool) (fun p => runF d l p.1 p.2.1 p.2.2) (fun p => l.length - p.1) (fun p => p.1 ≤ l.length ∧ p.2.1.small ∧ runO d (l.drop 0) 0 = runO p.2.1 (l.drop p.1) p.1) (0, d, false) (by simp -implicitDefEqProofs only [go_sem, seval, opsT_length, runF]) ⟨Nat.zero_le _, hd, rfl⟩ ?_
  rintro ⟨k, e, fl⟩ ⟨hk, he, hr⟩ R hR
  replace hk : k ≤ l.length := hk
  replace he : e.small := he
  replace hr : runO d (l.drop 0) 0 = runO e (l.drop k) k := hr
  rw [hr] at hR ⊢
  simp -implicitDefEqProofs only [go_sem, seval, runF]
  refine wcond_mk (fun h => ?_) (fun h => ?_)
  · have hk' : k < l.length := by have := of_decide_eq_true h; omega
    have hi : (k : Int) < l.length := by omega
    simp -implicitDefEqProofs only [go_sem, seval, opsT_get hk', opsT_length, hi, DOp.cells]
    refine call_k (s_disk_step e l[k] he (hl _ (List.getElem_mem _))) ?_ (by simp -implicitDefEqProofs only [go_sem, seval, DOp.cells])
    rw [runO_at hk'] at hR ⊢
    by_cases hz : (e.step l[k]).2 = 0
    · rw [if_pos hz] at hR ⊢
      simp -implicitDefEqProofs only [go_sem, seval, sk, hz]
      refine hR (k + 1, (e.step l[k]).1, true) _ ?_ ⟨hk', step_small e _, rfl⟩ (by show _ - (k + 1) < _ - k; omega)
      simp -implicitDefEqProofs only [go_sem, seval, wrap_i64_id (show -9223372036854775808 ≤ (k : Int) + 1 by omega) (by omega), Int.natCast_add, runF]
    · rw [if_neg hz]
      have hb : ((e.step l[k]).2 != 0) = true := by simpa using hz
      simp -implicitDefEqProofs only [go_sem, seval, hb]
  · have hk' : ¬ k < l.length := by have := of_decide_eq_false h; omega
    obtain rfl : k = l.length := by omega
    have e2 : l.drop l.length = [] := List.drop_length
    rw [e2, runO]
    simp -implicitDefEqProofs only [go_sem, seval, opsT_length]
set_option maxHeartbeats 1000000
def D0 : Dev := ⟨[], [], 2000, false⟩
def T0 : Jr := (newJ 2000).1
theorem runO_snoc : ∀ (l : List DOp) (d d2 : Dev) (k : Nat) (o : DOp), runO d l k = (d2, k + l.length, 0) → (d2.step o).2 = 0 → runO d (l ++ [o]) k = ((d2.step o).1, k + (l ++ [o]).length, 0)
  | [], d, d2, k, o, h, ho => by
    simp only [runO, Prod.mk.injEq] at h
    obtain ⟨rfl, _, _⟩ := h
    rw [List.nil_append, runO, if_pos ho, runO]
    rfl
  | p :: l, d, d2, k, o, h, ho => by
    rw [runO] at h
    rw [List.cons_append, runO]
    split at h
    · rename_i hp
      rw [if_pos hp, runO_snoc l _ d2 (k + 1) o (by rw [h, List.length_cons]; congr 2; omega) ho, List.length_cons]
      congr 2
      omega
    · rename_i hp
      simp only [Prod.mk.injEq] at h
      exact absurd h.2.2 hp
structure Top (j : Jr) (ops : List DOp) (done saved points used : Nat) : Prop where
  ok : j.ok
  next : j.l.next = done
  first : j.l.first = saved
  base : (baseV j.s).1 = saved
  cap : j.l.dev.cap = 2000
  len : j.l.dev.all.length ≤ 21 * done
  cells : inB j.c (1000000 * done)
  du : done ≤ used
  sd : saved ≤ done
  pu : points ≤ used
  snext : j.s.next = points + 1
  none : points = 0 → newO j.s = none
  cap0 : j.s.d0.cap = 2000
  cap1 : j.s.d1.cap = 2000
  run : runO D0 ops 0 = (j.l.dev, 0 + ops.length, 0)
  fin : ∀ o ∈ ops, o.fine
  ol : ops.length ≤ used
theorem top_start : newJ 2000 = (T0, 0) ∧ Top T0 [] 0 0 0 0 := by
  refine ⟨by decide +kernel, by decide +kernel, by decide +kernel, by decide +kernel, by decide +kernel, by decide +kernel, by decide +kernel, ?_, Nat.le_refl _, Nat.le_refl _, Nat.le_refl _, by decide +kernel, fun _ => by decide +kernel, by decide +kernel, by decide +kernel, by decide +kernel, by simp, Nat.le_refl _⟩
  intro x hx
  rw [show T0.c = [0, 0, 0, 0, 0, 0, 0, 0] by decide +kernel] at hx
  simp at hx
  subst hx
  decide
theorem top_more {j : Jr} {ops : List DOp} {done saved points used : Nat} (h : Top j ops done saved points used) : Top j ops done saved points (used + 1) :=
  ⟨h.ok, h.next, h.first, h.base, h.cap, h.len, h.cells, by have := h.du; omega, h.sd, by have := h.pu; omega, h.snext, h.none, h.cap0, h.cap1, h.run, h.fin, by have := h.ol; omega⟩
theorem top_do {j : Jr} {ops : List DOp} {done saved points used : Nat} (h : Top j ops done saved points used) (hu : used < 20) {m : Int × Int} (hm : mOK m = true) :
    ∃ j2 : Jr, doJ j m = (j2, (done : Int), 0) ∧ Top j2 (ops ++ [⟨1, bytesL ⟨done, wrB m⟩, 0⟩]) (done + 1) saved points (used + 1) := by
  have hdu := h.du
  have hlen := h.len
  have hst := inB_step h.cells (by omega) hm
  have g3 := inB_st hst (by omega)
  have hb : (bytesL ⟨done, wrB m⟩).length = 21 := by rw [bytesL_length]; simp [wrB_len]
  obtain ⟨l2, q1, q2, q3, q4, q5, q6, q7, q8, q9⟩ := do_go h.ok hm g3 (by rw [h.next]; omega) (by rw [h.cap]; omega)
  rw [h.next] at q1 q5 q8 q9
  have e2 : l2.dev = ⟨j.l.dev.syn, j.l.dev.tail ++ bytesL ⟨done, wrB m⟩, j.l.dev.cap, false⟩ := by
    have hd : l2.dev.down = false := q2.2.1.2.1
    cases hx : l2.dev
    rw [hx] at q6 q7 q9 hd
    simp only at q6 q7 q9 hd
    rw [q6, q7, q9, hd]
  have hup := upE_of h.ok.2.1.1 h.ok.2.1.2.1
  have hst2 : j.l.dev.step ⟨1, bytesL ⟨done, wrB m⟩, 0⟩ = (l2.dev, 0) := by
    have hl2 : ((j.l.dev.syn.length : Int) + j.l.dev.tail.length + (bytesL ⟨(done : Int), wrB m⟩).length ≤ j.l.dev.cap) := by
      rw [hb, h.cap]
      rw [Dev.all, List.length_append] at hlen
      omega
    rw [e2]
    simp only [Dev.step, if_true, Dev.app, orE, hup, if_pos hl2]
  refine ⟨_, q1, q2, ?_, ?_, h.base, ?_, ?_, ?_, by omega, by have := h.sd; omega, by have := h.pu; omega, h.snext, h.none, h.cap0, h.cap1, ?_, ?_, ?_⟩
  · show l2.next = _
    rw [q4, h.next]
    omega
  · show l2.first = _
    rw [q3, h.first]
  · show l2.dev.cap = _
    rw [q7, h.cap]
  · show l2.dev.all.length ≤ _
    rw [q8, List.length_append, hb]
    omega
  · show inB (stepC j.c m) _
    rw [show (1000000 * ((done + 1 : Nat) : Int)) = 1000000 * (done : Int) + 1000000 by omega]
    exact hst
  · show runO D0 _ 0 = (l2.dev, _, 0)
    have hs := runO_snoc ops D0 j.l.dev 0 ⟨1, bytesL ⟨done, wrB m⟩, 0⟩ h.run (by rw [hst2])
    rw [hst2] at hs
    exact hs
  · intro o ho
    rcases List.mem_append.1 ho with g | g
    · exact h.fin o g
    · simp at g
      subst g
      exact ⟨by show (bytesL _).length ≤ _; rw [hb]; omega, by show (-9223372036854775808 : Int) ≤ 0; omega, by show (0 : Int) < _; omega⟩
  · have := h.ol
    rw [List.length_append]
    simp
    omega
theorem top_sync {j : Jr} {ops : List DOp} {done saved points used : Nat} (h : Top j ops done saved points used) :
    ∃ j2 : Jr, syncJ j = (j2, 0) ∧ Top j2 (ops ++ [⟨2, [], 0⟩]) done saved points (used + 1) := by
  obtain ⟨q1, q2⟩ := sync_go h.ok
  have hall := all_eq h.ok.2.1
  have hup := upE_of h.ok.2.1.1 h.ok.2.1.2.1
  have hst2 : j.l.dev.step ⟨2, [], 0⟩ = (j.l.all.dev, 0) := by
    simp [Dev.step, Dev.sync, orE, hup, WLog.all, hall]
  refine ⟨_, q1, q2, h.next, h.first, h.base, h.cap, ?_, h.cells, by have := h.du; omega, h.sd, by have := h.pu; omega, h.snext, h.none, h.cap0, h.cap1, ?_, ?_, ?_⟩
  · show (catR j.l.recs ++ []).length ≤ _
    rw [List.append_nil, ← hall]
    exact h.len
  · show runO D0 _ 0 = (j.l.all.dev, _, 0)
    have hs := runO_snoc ops D0 j.l.dev 0 ⟨2, [], 0⟩ h.run (by rw [hst2])
    rw [hst2] at hs
    exact hs
  · intro o ho
    rcases List.mem_append.1 ho with g | g
    · exact h.fin o g
    · simp at g
      subst g
      exact ⟨by show (0 : Nat) ≤ _; omega, by show (-9223372036854775808 : Int) ≤ 0; omega, by show (0 : Int) < _; omega⟩
  · have := h.ol
    rw [List.length_append]
    simp
    omega
theorem top_save {j : Jr} {ops : List DOp} {done saved points used : Nat} (h : Top j ops done saved points used) (hu : used < 20) :
    ∃ j2 : Jr, saveJ j = (j2, 0) ∧ Top j2 [] done done (points + 1) (used + 1) := by
  have hdu := h.du
  have hpu := h.pu
  obtain ⟨s2, p1, p2, p3, p4, p5, p6, p7, p8, p9⟩ := save_go h.ok (by rw [h.next]; omega) (by rw [h.snext]; omega) (by rw [h.cap0]; omega) (by rw [h.cap1]; omega)
  refine ⟨_, p1, p2, h.next, h.next, ?_, h.cap, Nat.zero_le _, h.cells, by omega, Nat.le_refl _, by omega, ?_, fun hh => by omega, ?_, ?_, ?_, by simp, Nat.zero_le _⟩
  · show (baseV s2).1 = _
    rw [p3, h.next]
  · show s2.next = _
    rw [p4, h.snext]
    omega
  · show s2.d0.cap = _
    rw [p5, h.cap0]
  · show s2.d1.cap = _
    rw [p6, h.cap1]
  · show runO D0 [] 0 = (⟨[], [], j.l.dev.cap, false⟩, 0 + 0, 0)
    rw [h.cap]
    rfl
theorem top_load {j : Jr} {ops : List DOp} {done saved points used : Nat} (h : Top j ops done saved points used) :
    (points = 0 → (loadS j.s).2.2 = 6) ∧ (0 < points → (loadS j.s).1 = points ∧ (loadS j.s).2.2 = 0) := by
  have hx := h.ok.2.2.2.1
  rw [h.snext] at hx
  refine ⟨fun hp => ?_, fun hp => ?_⟩
  · rw [loadS, if_pos h.ok.1, h.none hp]
  · unfold nextO at hx
    rw [loadS, if_pos h.ok.1]
    cases hn : newO j.s with
    | none => rw [hn] at hx; simp only at hx; omega
    | some r => rw [hn] at hx; simp only at hx; exact ⟨by show r.num = _; omega, rfl⟩
theorem top_run {j : Jr} {ops : List DOp} {done saved points used : Nat} (h : Top j ops done saved points used) (hu : used ≤ 20) : D0.run ops = (j.l.dev, ops.length, 0) := by
  have := h.ol
  rw [Dev.run, if_pos (by decide), if_pos (by omega), h.run, Nat.zero_add]
structure CrashT (j : Jr) (saved : Nat) (keep : Int) (c r : Jr) (dv : Dev) (w : WLog) (xs : List (BitVec 8)) : Prop where
  k0 : 0 ≤ keep
  k1 : keep ≤ j.l.dev.tail.length
  cr : crashJ j 0 keep = (c, 0)
  rc : recoverJ c = (r, (saved : Int) + (scanL xs).length, 0)
  ex : (j.l.dev.syn ++ j.l.dev.tail).take (j.l.dev.syn.length + keep.toNat) = xs
  ed : j.l.crash keep = (dv, 0)
  op : openW dv saved = (w, 0)
  rec' : recR w w.first = (scanL xs, 0)
  next : r.l.next = w.next
  same : sameD r.l.dev w.dev = true
  sv : dv.small
  fw : w.fine
  sr : r.l.dev.small
  rd : ∀ q ∈ scanL xs, q.data.length ≤ 1000000
  rn : (scanL xs).length ≤ 20000
  xl : xs.length ≤ 20000
theorem top_crash {j : Jr} {ops : List DOp} {done saved points used : Nat} (h : Top j ops done saved points used) (hu : used ≤ 20) (keep : Int) :
    ((crashJ j 0 keep).2 = 2 ∧ (keep < 0 ∨ (j.l.dev.tail.length : Int) < keep)) ∨ ∃ c r dv w xs, CrashT j saved keep c r dv w xs := by
  have hdu := h.du
  have hpu := h.pu
  have hsd := h.sd
  obtain ⟨s2, p1, p2, p3, p4, p5, p6, p7, p8, p9⟩ := save_go h.ok (by rw [h.next]; omega) (by rw [h.snext]; omega) (by rw [h.cap0]; omega) (by rw [h.cap1]; omega)
  by_cases hk : 0 ≤ keep ∧ keep ≤ j.l.dev.tail.length
  · right
    obtain ⟨k0, k1⟩ := hk
    obtain ⟨k, rfl⟩ : ∃ k : Nat, keep = (k : Int) := ⟨keep.toNat, by omega⟩
    have hk : k ≤ j.l.dev.tail.length := by omega
    have hl := h.ok.2.1
    have hz0 := crashJ_zero h.ok p9 (stage := 0) (by omega) (by omega)
    obtain ⟨_, _, hv, _, _⟩ := crashJ_parts h.ok hz0
    have hv' : (halved j 0 0).2 = 0 := hv
    obtain ⟨a1, a2, a3⟩ := halved_open h.ok (by omega) (by omega) hv'
    have hdc : j.l.crash (k : Int) = j.l.dev.crash (k : Int) := if_pos hl
    have hce := crash_eq hl hk
    have hck := crash_ck hl hk
    have hs := crash_scan hl hk
    have hop := open_crash hl (by rw [h.first]; omega) hk
    obtain ⟨b0, b1, b2⟩ := ok_bounds hl
    have f := facts h.ok
    have hKl := keep_le j.l k
    obtain ⟨c0, c1, c2⟩ := cap_ok hl
    have hall := all_eq hl
    have hnx := hl.2.2.2.1
    rw [hce] at hck hs hop
    simp only at hck hs hop
    generalize keepC j.l k = K at *
    have hLen : (j.l.recs.take K).length = K := by rw [List.length_take]; omega
    have hb1 : (baseV j.s).1 = j.l.first := by rw [h.base, h.first]
    rcases a3 with ⟨g, g2⟩ | ⟨g, _⟩
    · omega
    have hsame : baseV (openS (halved j 0 0).1).1 = ((baseV j.s).1, (baseV j.s).2.1, true) := by
      rw [base_same g]
      exact Prod.ext rfl (Prod.ext rfl h.ok.2.2.1)
    have hcr : crashJ j 0 (k : Int) = (⟨(halved j 0 0).1, ⟨⟨j.l.dev.syn ++ j.l.dev.tail.take k, [], j.l.dev.cap, true⟩, j.l.first, j.l.next⟩, z8⟩, 0) := by
      rw [crashJ_0 j _ h.ok, if_pos hv', ← hdc, hce]
      simp
    have hre : ∃ c2 : List Int, redo (baseV j.s).2.1 ((j.l.recs.take K).drop ((baseV j.s).1 - j.l.first).toNat) = (c2, true) := by
      refine ⟨_, Prod.ext rfl ?_⟩
      have ht := redo_take (c := (baseV j.s).2.1) (rs := j.rest) (by rw [f.redo]) (K - ((baseV j.s).1 - j.l.first).toNat)
      rw [show (j.l.recs.take K).drop ((baseV j.s).1 - j.l.first).toNat = j.rest.take (K - ((baseV j.s).1 - j.l.first).toNat) by unfold Jr.rest; rw [List.drop_take]]
      exact ht
    obtain ⟨c2', hre⟩ := hre
    have hxs : (j.l.dev.syn ++ j.l.dev.tail).take (j.l.dev.syn.length + (k : Int).toNat) = j.l.dev.syn ++ j.l.dev.tail.take k := by
      rw [Int.toNat_natCast, List.take_append, List.take_of_length_le (by omega), show j.l.dev.syn.length + k - j.l.dev.syn.length = k by omega]
    have hs' : scanL (j.l.dev.syn ++ j.l.dev.tail.take k) = j.l.recs.take K := by
      have e : (⟨j.l.dev.syn ++ j.l.dev.tail.take k, [], j.l.dev.cap, true⟩ : Dev).all = j.l.dev.syn ++ j.l.dev.tail.take k := by simp [Dev.all]
      rw [e] at hs
      exact hs
    obtain ⟨r, q1, q2, q3, q4, q5, q6⟩ := recover_of (d := ⟨(halved j 0 0).1, ⟨⟨j.l.dev.syn ++ j.l.dev.tail.take k, [], j.l.dev.cap, true⟩, j.l.first, j.l.next⟩, z8⟩) (cap := j.l.dev.cap) a1 a2 hsame hck rfl hs (row_take (row_ok hl) K) b0 f.f0 hre
    have hmax : max (baseV j.s).1 (j.l.first + ((j.l.recs.take K).length : Int)) = saved + ((j.l.recs.take K).length : Int) := by rw [hb1, h.first]; omega
    rw [hmax] at q1 q3
    rw [if_pos (by rw [hb1]; omega)] at q6
    have hlt := log_take hl K
    have hrc := log_records hlt.1
    refine ⟨_, r, _, _, j.l.dev.syn ++ j.l.dev.tail.take k, k0, k1, hcr, ?_, hxs, hce, by rw [← h.first]; exact hop, ?_, ?_, ?_, ?_, log_fine hlt.1, ?_, ?_, ?_, ?_⟩
    · rw [hs']; exact q1
    · rw [hs']
      rw [hlt.2] at hrc
      exact hrc
    · rw [q6]
    · rw [q6]; exact sameD_self _
    · constructor
      · show (j.l.dev.syn ++ j.l.dev.tail.take k).length ≤ _
        have : j.l.dev.all.length ≤ 20000 := all_small hl.1
        rw [Dev.all, List.length_append] at this
        rw [List.length_append, List.length_take]
        omega
      · exact Nat.zero_le _
    · rw [q6]; exact (log_fine hlt.1).1
    · intro q hq
      have := (Rec.ok_iff q).1 ((scanL_ok _).ok q hq)
      omega
    · have h1 := catR_many (scanL (j.l.dev.syn ++ j.l.dev.tail.take k))
      have h2 := scanL_len (j.l.dev.syn ++ j.l.dev.tail.take k)
      have : j.l.dev.all.length ≤ 20000 := all_small hl.1
      rw [Dev.all, List.length_append] at this
      rw [List.length_append, List.length_take] at h2
      omega
    · have : j.l.dev.all.length ≤ 20000 := all_small hl.1
      rw [Dev.all, List.length_append] at this
      rw [List.length_append, List.length_take]
      omega
  · left
    have hk' : keep < 0 ∨ (j.l.dev.tail.length : Int) < keep := by omega
    refine ⟨?_, hk'⟩
    rcases crashJ_err h.ok p9 0 keep with g | g
    · exfalso
      obtain ⟨_, _, _, hc, _⟩ := crashJ_parts h.ok g
      have hcl : crLog j 0 = j.l := rfl
      rw [hcl, if_neg (by decide)] at hc
      obtain ⟨k, hk2, hk3, _, _⟩ := crash_some hc
      omega
    · exact g
theorem arg_i64 {d : Nat} {x : T} (h : ArgFits Try.prog (d + 1) 3 x) : ∃ n : Int, x = .i .i64 n ∧ -9223372036854775808 ≤ n ∧ n ≤ 9223372036854775807 := by
  obtain ⟨n, e, hb⟩ := fits_i64' ti3 (arg_int ti3 h)
  simp only [List.cons.injEq, and_true] at e
  exact ⟨n, e, hb⟩
theorem fits_mv {d : Nat} {xs : List T} (hf : Fits Try.prog (d + 2) 40 xs) : ∃ m : Int × Int, xs = mT m ∧ i64B m.1 ∧ i64B m.2 := by
  obtain ⟨ps, rfl, h⟩ := fits_struct ti40 hf
  obtain ⟨p0, ps, rfl, h0, h⟩ := all2_cons h
  obtain ⟨p1, ps, rfl, h1, h⟩ := all2_cons h
  obtain rfl := all2_nil h
  obtain ⟨a, rfl, l1, u1⟩ := fits_i64' ti3 h0
  obtain ⟨b, rfl, l2, u2⟩ := fits_i64' ti3 h1
  exact ⟨(a, b), rfl, ⟨l1, u1⟩, l2, u2⟩
theorem arg_mvs {d : Nat} {x : T} (h : ArgFits Try.prog (d + 3) 22 x) : ∃ l : List (Int × Int), x = .sl (mvT l) ∧ l.length ≤ 140737488355328 ∧ ∀ m ∈ l, i64B m.1 ∧ i64B m.2 := by
  obtain ⟨es, e1, e2, e3⟩ := fits_sl ti22 (arg_sl ti22 h)
  simp only [List.cons.injEq, and_true] at e1
  subst e1
  obtain ⟨l, rfl, hl⟩ := list_form2 (f := mT) (p := fun m => i64B m.1 ∧ i64B m.2) fun y hy => fits_mv (e3 y hy)
  exact ⟨l, rfl, by simpa [room] using e2, hl⟩
end Go.Proofs.Ytlfpafdkegnkoaa.Pm
