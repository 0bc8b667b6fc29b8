/- wal: the log of the examples, its tail a slice of its own. No law of Go's is stated here. -/
import Derived.Test.YtdpnjhooehadmaaPmMj
set_option linter.all false
set_option maxRecDepth 100000
set_option maxHeartbeats 2000000
namespace Go.Proofs.Ytdpnjhooehadmaa.Pm
open Go Go.RowKit

attribute [go_sem] bT_take_self opW opW3
theorem x_wal_with (us vs : List Value) (h1 : us.length = 4) (h2 : vs.length = 2) : Spec Try.prog 89 (.agg (List.replicate 7 .what) :: .agg (us.map .val) :: vs.map .val) [] (.t (.agg ((us ++ vs).map .val)) false) := by
  match us, h1 with
  | [u0, u1, u2, u3], _ =>
    match vs, h2 with
    | [v0, v1], _ =>
      refine spec_k (hold mixed) b_wal_view_with [(.agg [.val u0, .val u1, .val u2, .val u3, .val v0, .val v1], false)] ?_
      simp -implicitDefEqProofs only [go_sem, reduceIte, Nat.reduceAdd, Nat.reduceSub, Nat.reduceMul, Nat.reduceLT, Nat.reduceLeDiff, Nat.reduceEqDiff, Nat.reduceBEq, Int.reduceLE, Int.reduceLT, Int.reduceToNat, Int.reduceMul, Int.reduceAdd, Int.reduceSub, Int.reduceNeg, Int.reduceEq, reduceCtorEq, Nat.reduceMod, Int.reduceBNe, Int.reduceBEq, Int.reduceGT, Int.reduceGE, Int.reduceNe, Int.cast_ofNat_Int, Int.natCast_zero, Int.natCast_one, bne_self_eq_false, gt_iff_lt, ge_iff_le, Int.lt_irrefl, Int.le_refl, List.replicate]
      exact ⟨trivial, trivial, trivial, trivial, trivial, trivial⟩
theorem r_slices_Clone (bs : List (BitVec 8)) (h0 : bs ≠ []) (hl : bs.length ≤ 1000000) : Spec Try.prog 116 [.sl (bT bs)] [.row 0 1 (bT bs) true] (.row 0 0 0 bs.length) := by
  cases bs with
  | nil => exact absurd rfl h0
  | cons b bs =>
    rw [← bT_length (b :: bs)]
    refine spec_kr (hold mixed) b_slices_Clone 1 (bT (b :: bs)) true ?_
    simp -implicitDefEqProofs only [go_sem, reduceIte, Nat.reduceAdd, Nat.reduceSub, Nat.reduceMul, Nat.reduceLT, Nat.reduceLeDiff, Nat.reduceEqDiff, Nat.reduceBEq, Int.reduceLE, Int.reduceLT, Int.reduceToNat, Int.reduceMul, Int.reduceAdd, Int.reduceSub, Int.reduceNeg, Int.reduceEq, reduceCtorEq, Nat.reduceMod, bT_cons]
    exact ⟨okEs_bT (b :: bs), by unfold room; simp at hl; omega⟩
theorem r_disk_made (d : Dev) (ys : List (BitVec 8)) (h0 : ys ≠ []) (hy : ys.length ≤ 1000000) : Spec Try.prog 101 [.agg d.cells, .sl (bT []), .sl (bT ys)] [.row 0 1 (bT ys) true] (.agg [.t (.sl []) true, .row 0 0 0 ys.length, .t (.i .i64 d.cap) true, .t (.b false) true]) := by
  refine spec_ko (hold mixed) b_disk_made [.row 0 1 (bT ys) true] [.agg [.t (.sl []) true, .row 0 0 0 ys.length, .t (.i .i64 d.cap) true, .t (.b false) true]] ?_
  simp -implicitDefEqProofs only [go_sem, reduceIte, Nat.reduceAdd, Nat.reduceSub, Nat.reduceMul, Nat.reduceLT, Nat.reduceLeDiff, Nat.reduceEqDiff, Nat.reduceBEq, Int.reduceLE, Int.reduceLT, Int.reduceToNat, Int.reduceMul, Int.reduceAdd, Int.reduceSub, Int.reduceNeg, Int.reduceEq, reduceCtorEq, Nat.reduceMod, Dev.cells]
  refine call_d (s_slices_Clone [] (by simp)) ?_
  simp -implicitDefEqProofs only [go_sem, reduceIte, Nat.reduceAdd, Nat.reduceSub, Nat.reduceMul, Nat.reduceLT, Nat.reduceLeDiff, Nat.reduceEqDiff, Nat.reduceBEq, Int.reduceLE, Int.reduceLT, Int.reduceToNat, Int.reduceMul, Int.reduceAdd, Int.reduceSub, Int.reduceNeg, Int.reduceEq, reduceCtorEq, Nat.reduceMod]
  refine call_d (r_slices_Clone ys h0 hy) ?_
  simp -implicitDefEqProofs only [go_sem, reduceIte, Nat.reduceAdd, Nat.reduceSub, Nat.reduceMul, Nat.reduceLT, Nat.reduceLeDiff, Nat.reduceEqDiff, Nat.reduceBEq, Int.reduceLE, Int.reduceLT, Int.reduceToNat, Int.reduceMul, Int.reduceAdd, Int.reduceSub, Int.reduceNeg, Int.reduceEq, reduceCtorEq, Nat.reduceMod]
  refine ends_mk [2] ?_ ?_
  · simp -implicitDefEqProofs only [go_sem, reduceIte, Nat.reduceAdd, Nat.reduceSub, Nat.reduceMul, Nat.reduceLT, Nat.reduceLeDiff, Nat.reduceEqDiff, Nat.reduceBEq, Int.reduceLE, Int.reduceLT, Int.reduceToNat, Int.reduceMul, Int.reduceAdd, Int.reduceSub, Int.reduceNeg, Int.reduceEq, reduceCtorEq, Nat.reduceMod]
  · simp -implicitDefEqProofs only [go_sem, reduceIte, Nat.reduceAdd, Nat.reduceSub, Nat.reduceMul, Nat.reduceLT, Nat.reduceLeDiff, Nat.reduceEqDiff, Nat.reduceBEq, Int.reduceLE, Int.reduceLT, Int.reduceToNat, Int.reduceMul, Int.reduceAdd, Int.reduceSub, Int.reduceNeg, Int.reduceEq, reduceCtorEq, Nat.reduceMod, bT, List.map]
theorem r_disk_Append (d : Dev) (b : List (BitVec 8)) (hd : d.small) (hb : b.length ≤ 100000) (hu : d.upE = 0) (hs : d.syn = []) (h0 : d.tail ++ b ≠ []) (hf : (d.tail.length : Int) + b.length ≤ d.cap) (hc : d.cap ≤ 20000) :
    Spec Try.prog 88 [.agg d.cells, .sl (bT b)] [.row 0 1 (bT (d.tail ++ b)) true] (.tup [.agg [.t (.sl []) true, .row 0 0 0 (d.tail ++ b).length, .t (.i .i64 d.cap) true, .t (.b false) true], .t (.i .i64 0) true]) := by
  refine spec_ko (hold mixed) b_disk_Append [.row 0 1 (bT (d.tail ++ b)) true] [.agg [.t (.sl []) true, .row 0 0 0 (d.tail ++ b).length, .t (.i .i64 d.cap) true, .t (.b false) true], .t (.i .i64 0) true] ?_
  have hU := s_disk_up d hd
  have hM := r_disk_made d (d.tail ++ b) h0 (by rw [List.length_append]; have := hd.2; omega)
  obtain ⟨syn, tail, cap, down⟩ := d
  simp only at hs hf hc h0 hM
  subst hs
  have s2 : tail.length ≤ 100000 := hd.2
  have w1 : IntKind.i64.wrap (cap - 0) = cap := by rw [Int.sub_zero]; exact wrap_i64_id (by omega) (by omega)
  have w2 : IntKind.i64.wrap (cap - (tail.length : Int)) = cap - tail.length := wrap_i64_id (by omega) (by omega)
  have e1 : ((b.length : Int) > cap - tail.length) = False := eq_false (by omega)
  have e1' : (cap - (tail.length : Int) < (b.length : Int)) = False := eq_false (by omega)
  have hl : catL [tail, b] = (tail ++ b).length := by simp [catL]
  have hl2 : (tail ++ b).length ≤ 200000 := by rw [List.length_append]; omega
  have hfl : [tail, b].flatten = tail ++ b := by simp
  simp -implicitDefEqProofs only [go_sem, reduceIte, Nat.reduceAdd, Nat.reduceSub, Nat.reduceMul, Nat.reduceLT, Nat.reduceLeDiff, Nat.reduceEqDiff, Nat.reduceBEq, Int.reduceLE, Int.reduceLT, Int.reduceToNat, Int.reduceMul, Int.reduceAdd, Int.reduceSub, Int.reduceNeg, Int.reduceEq, reduceCtorEq, Nat.reduceMod]
  refine call_k hU ?_
  simp -implicitDefEqProofs only [go_sem, reduceIte, Nat.reduceAdd, Nat.reduceSub, Nat.reduceMul, Nat.reduceLT, Nat.reduceLeDiff, Nat.reduceEqDiff, Nat.reduceBEq, Int.reduceLE, Int.reduceLT, Int.reduceToNat, Int.reduceMul, Int.reduceAdd, Int.reduceSub, Int.reduceNeg, Int.reduceEq, reduceCtorEq, Nat.reduceMod, Int.reduceBNe, Int.reduceBEq, Int.reduceGT, Int.reduceGE, Int.reduceNe, Int.cast_ofNat_Int, Int.natCast_zero, Int.natCast_one, bne_self_eq_false, gt_iff_lt, ge_iff_le, Int.lt_irrefl, Int.le_refl, hu, w1, w2, e1, e1']
  refine call_d (s_slices_Concat [tail, b] (by simp) (by omega)) ?_ (by simp -implicitDefEqProofs only [go_sem, reduceIte, Nat.reduceAdd, Nat.reduceSub, Nat.reduceMul, Nat.reduceLT, Nat.reduceLeDiff, Nat.reduceEqDiff, Nat.reduceBEq, Int.reduceLE, Int.reduceLT, Int.reduceToNat, Int.reduceMul, Int.reduceAdd, Int.reduceSub, Int.reduceNeg, Int.reduceEq, reduceCtorEq, Nat.reduceMod, Dev.cells, catE, List.map])
  rw [hfl, hl]
  simp -implicitDefEqProofs only [go_sem, reduceIte, Nat.reduceAdd, Nat.reduceSub, Nat.reduceMul, Nat.reduceLT, Nat.reduceLeDiff, Nat.reduceEqDiff, Nat.reduceBEq, Int.reduceLE, Int.reduceLT, Int.reduceToNat, Int.reduceMul, Int.reduceAdd, Int.reduceSub, Int.reduceNeg, Int.reduceEq, reduceCtorEq, Nat.reduceMod]
  refine call_d hM ?_
  simp -implicitDefEqProofs only [go_sem, reduceIte, Nat.reduceAdd, Nat.reduceSub, Nat.reduceMul, Nat.reduceLT, Nat.reduceLeDiff, Nat.reduceEqDiff, Nat.reduceBEq, Int.reduceLE, Int.reduceLT, Int.reduceToNat, Int.reduceMul, Int.reduceAdd, Int.reduceSub, Int.reduceNeg, Int.reduceEq, reduceCtorEq, Nat.reduceMod]
  refine ends_mk [4] ?_ ?_
  · simp -implicitDefEqProofs only [go_sem, reduceIte, Nat.reduceAdd, Nat.reduceSub, Nat.reduceMul, Nat.reduceLT, Nat.reduceLeDiff, Nat.reduceEqDiff, Nat.reduceBEq, Int.reduceLE, Int.reduceLT, Int.reduceToNat, Int.reduceMul, Int.reduceAdd, Int.reduceSub, Int.reduceNeg, Int.reduceEq, reduceCtorEq, Nat.reduceMod]
  · simp -implicitDefEqProofs only [go_sem, reduceIte, Nat.reduceAdd, Nat.reduceSub, Nat.reduceMul, Nat.reduceLT, Nat.reduceLeDiff, Nat.reduceEqDiff, Nat.reduceBEq, Int.reduceLE, Int.reduceLT, Int.reduceToNat, Int.reduceMul, Int.reduceAdd, Int.reduceSub, Int.reduceNeg, Int.reduceEq, reduceCtorEq, Nat.reduceMod]
theorem r_wal_Append (l : WLog) (hl : l.fine) (h : l.ok) (b : List (BitVec 8)) (hb : b.length ≤ 1000) (hn : l.next ≤ 1000000000) (hs : l.dev.syn = []) (hf : (l.dev.tail.length : Int) + 12 + b.length ≤ l.dev.cap) :
    Spec Try.prog 48 [.agg l.cells, .sl (bT b)] [.row 0 1 (bT (l.dev.tail ++ bytesL ⟨l.next, b⟩)) true]
      (.tup [.agg [.t (.sl []) true, .row 0 0 0 (l.dev.tail ++ bytesL ⟨l.next, b⟩).length, .t (.i .i64 l.dev.cap) true, .t (.b false) true, .t (.i .i64 l.first) true, .t (.i .i64 (l.next + 1)) true], .t (.i .i64 l.next) true, .t (.i .i64 0) true]) := by
  refine spec_ko (hold mixed) b_wal_Append [.row 0 1 (bT (l.dev.tail ++ bytesL ⟨l.next, b⟩)) true] [.agg [.t (.sl []) true, .row 0 0 0 (l.dev.tail ++ bytesL ⟨l.next, b⟩).length, .t (.i .i64 l.dev.cap) true, .t (.b false) true, .t (.i .i64 l.first) true, .t (.i .i64 (l.next + 1)) true], .t (.i .i64 l.next) true, .t (.i .i64 0) true] ?_
  obtain ⟨b0, b1, b2⟩ := ok_bounds h
  have hnx := h.2.2.2.1
  have c0 : ((1000 : Int) < b.length) = False := eq_false (by omega)
  have c1 : ((1000000000 : Int) < l.next) = False := eq_false (by omega)
  have hrk : (Rec.mk l.next b).ok = true := (Rec.ok_iff _).2 ⟨by show 0 ≤ l.next; omega, by show l.next ≤ _; omega, by show b.length ≤ _; omega⟩
  have hbl : (bytesL ⟨l.next, b⟩).length = 12 + b.length := bytesL_length _
  have w1 : IntKind.i64.wrap (l.next + 1) = l.next + 1 := wrap_i64_id (by omega) (by omega)
  have hA := r_disk_Append l.dev (bytesL ⟨l.next, b⟩) hl.1 (by omega) (dev_up h) hs (by
    intro e
    have := congrArg List.length e
    rw [List.length_append, hbl] at this
    simp at this) (by rw [hbl]; omega) (l.dev.ok_of h.1).2.1
  generalize hbs : bytesL ⟨l.next, b⟩ = bs at *
  have hE := s_frame_Encode_ok ⟨l.next, b⟩ hrk
  rw [hbs] at hE
  generalize l.dev.tail ++ bs = tl at *
  simp -implicitDefEqProofs only [go_sem, reduceIte, Nat.reduceAdd, Nat.reduceSub, Nat.reduceMul, Nat.reduceLT, Nat.reduceLeDiff, Nat.reduceEqDiff, Nat.reduceBEq, Int.reduceLE, Int.reduceLT, Int.reduceToNat, Int.reduceMul, Int.reduceAdd, Int.reduceSub, Int.reduceNeg, Int.reduceEq, reduceCtorEq, Nat.reduceMod, Int.reduceBNe, Int.reduceBEq, Int.reduceGT, Int.reduceGE, Int.reduceNe, Int.cast_ofNat_Int, Int.natCast_zero, Int.natCast_one, bne_self_eq_false, gt_iff_lt, ge_iff_le, Int.lt_irrefl, Int.le_refl]
  refine call_k (s_wal_look_ok l hl h) ?_
  simp -implicitDefEqProofs only [go_sem, reduceIte, Nat.reduceAdd, Nat.reduceSub, Nat.reduceMul, Nat.reduceLT, Nat.reduceLeDiff, Nat.reduceEqDiff, Nat.reduceBEq, Int.reduceLE, Int.reduceLT, Int.reduceToNat, Int.reduceMul, Int.reduceAdd, Int.reduceSub, Int.reduceNeg, Int.reduceEq, reduceCtorEq, Nat.reduceMod, Int.reduceBNe, Int.reduceBEq, Int.reduceGT, Int.reduceGE, Int.reduceNe, Int.cast_ofNat_Int, Int.natCast_zero, Int.natCast_one, bne_self_eq_false, gt_iff_lt, ge_iff_le, Int.lt_irrefl, Int.le_refl, viewV, c0, c1]
  refine call_k hE ?_ (by simp -implicitDefEqProofs only [go_sem, reduceIte, Nat.reduceAdd, Nat.reduceSub, Nat.reduceMul, Nat.reduceLT, Nat.reduceLeDiff, Nat.reduceEqDiff, Nat.reduceBEq, Int.reduceLE, Int.reduceLT, Int.reduceToNat, Int.reduceMul, Int.reduceAdd, Int.reduceSub, Int.reduceNeg, Int.reduceEq, reduceCtorEq, Nat.reduceMod, Rec.cells])
  simp -implicitDefEqProofs only [go_sem, reduceIte, Nat.reduceAdd, Nat.reduceSub, Nat.reduceMul, Nat.reduceLT, Nat.reduceLeDiff, Nat.reduceEqDiff, Nat.reduceBEq, Int.reduceLE, Int.reduceLT, Int.reduceToNat, Int.reduceMul, Int.reduceAdd, Int.reduceSub, Int.reduceNeg, Int.reduceEq, reduceCtorEq, Nat.reduceMod, Int.reduceBNe, Int.reduceBEq, Int.reduceGT, Int.reduceGE, Int.reduceNe, Int.cast_ofNat_Int, Int.natCast_zero, Int.natCast_one, bne_self_eq_false, gt_iff_lt, ge_iff_le, Int.lt_irrefl, Int.le_refl]
  refine call_k hA ?_
  simp -implicitDefEqProofs only [go_sem, reduceIte, Nat.reduceAdd, Nat.reduceSub, Nat.reduceMul, Nat.reduceLT, Nat.reduceLeDiff, Nat.reduceEqDiff, Nat.reduceBEq, Int.reduceLE, Int.reduceLT, Int.reduceToNat, Int.reduceMul, Int.reduceAdd, Int.reduceSub, Int.reduceNeg, Int.reduceEq, reduceCtorEq, Nat.reduceMod, Int.reduceBNe, Int.reduceBEq, Int.reduceGT, Int.reduceGE, Int.reduceNe, Int.cast_ofNat_Int, Int.natCast_zero, Int.natCast_one, bne_self_eq_false, gt_iff_lt, ge_iff_le, Int.lt_irrefl, Int.le_refl, w1]
  refine call_xd x_wal_with ?_
  simp -implicitDefEqProofs only [go_sem, reduceIte, Nat.reduceAdd, Nat.reduceSub, Nat.reduceMul, Nat.reduceLT, Nat.reduceLeDiff, Nat.reduceEqDiff, Nat.reduceBEq, Int.reduceLE, Int.reduceLT, Int.reduceToNat, Int.reduceMul, Int.reduceAdd, Int.reduceSub, Int.reduceNeg, Int.reduceEq, reduceCtorEq, Nat.reduceMod, Int.reduceBNe, Int.reduceBEq, Int.reduceGT, Int.reduceGE, Int.reduceNe, Int.cast_ofNat_Int, Int.natCast_zero, Int.natCast_one, bne_self_eq_false, gt_iff_lt, ge_iff_le, Int.lt_irrefl, Int.le_refl]
  refine ends_mk [4] ?_ ?_
  · simp -implicitDefEqProofs only [go_sem, reduceIte, Nat.reduceAdd, Nat.reduceSub, Nat.reduceMul, Nat.reduceLT, Nat.reduceLeDiff, Nat.reduceEqDiff, Nat.reduceBEq, Int.reduceLE, Int.reduceLT, Int.reduceToNat, Int.reduceMul, Int.reduceAdd, Int.reduceSub, Int.reduceNeg, Int.reduceEq, reduceCtorEq, Nat.reduceMod]
  · simp -implicitDefEqProofs only [go_sem, reduceIte, Nat.reduceAdd, Nat.reduceSub, Nat.reduceMul, Nat.reduceLT, Nat.reduceLeDiff, Nat.reduceEqDiff, Nat.reduceBEq, Int.reduceLE, Int.reduceLT, Int.reduceToNat, Int.reduceMul, Int.reduceAdd, Int.reduceSub, Int.reduceNeg, Int.reduceEq, reduceCtorEq, Nat.reduceMod]
def tail2 : List (BitVec 8) := W1.dev.tail ++ bytesL ⟨W1.next, [98#8, 99#8]⟩
theorem r_given : Spec Try.prog 62 [.b false] [.row 0 1 (bT tail2) true] (.agg [.t (.sl []) true, .row 0 0 0 tail2.length, .t (.i .i64 1000) true, .t (.b false) true, .t (.i .i64 5) true, .t (.i .i64 7) true]) := by
  refine spec_ko (hold mixed) b_law04_given [.row 0 1 (bT tail2) true] [.agg [.t (.sl []) true, .row 0 0 0 tail2.length, .t (.i .i64 1000) true, .t (.b false) true, .t (.i .i64 5) true, .t (.i .i64 7) true]] ?_
  have A0 : Spec Try.prog 32 [.agg [.sl [], .sl [], .i .i64 1000, .b false], .i .i64 5] [] (resV ((opW (openW devK 5)).map AV.ofT)) := s_wal_Open devK (by decide) 5 (by omega) (by omega)
  have A1 : Spec Try.prog 48 [.agg W0.cells, .sl [[.i .u8 97]]] [] (resV ((opW3 (W0.app [97#8])).map AV.ofT)) := s_wal_Append W0 fineW0 [97#8] (by simp)
  have hok : W1.ok := by decide +kernel
  have q1 : W1.dev.syn = [] := by decide +kernel
  have q2 : W1.dev.cap = 1000 := by decide +kernel
  have q3 : W1.first = 5 := by decide +kernel
  have q4 : W1.next = 6 := by decide +kernel
  have q5 : W1.dev.tail.length = 13 := by decide +kernel
  have A2 := r_wal_Append W1 fineW1 hok [98#8, 99#8] (by simp) (by omega) q1 (by rw [q5, q2]; simp)
  rw [show W1.dev.tail ++ bytesL ⟨W1.next, [98#8, 99#8]⟩ = tail2 from rfl, q2, q3, q4] at A2
  have A3 : Spec Try.prog 48 [.agg W1.cells, .sl [[.i .u8 98], [.i .u8 99]]] [.row 0 1 (bT tail2) true] (.tup [.agg [.t (.sl []) true, .row 0 0 0 tail2.length, .t (.i .i64 1000) true, .t (.b false) true, .t (.i .i64 5) true, .t (.i .i64 7) true], .t (.i .i64 6) true, .t (.i .i64 0) true]) := A2
  have e0 : (openW devK 5).1 = W0 := rfl
  have e1 : (W0.app [97#8]).1 = W1 := rfl
  generalize tail2 = tl at *
  simp -implicitDefEqProofs only [go_sem, reduceIte, Nat.reduceAdd, Nat.reduceSub, Nat.reduceMul, Nat.reduceLT, Nat.reduceLeDiff, Nat.reduceEqDiff, Nat.reduceBEq, Int.reduceLE, Int.reduceLT, Int.reduceToNat, Int.reduceMul, Int.reduceAdd, Int.reduceSub, Int.reduceNeg, Int.reduceEq, reduceCtorEq, Nat.reduceMod]
  first | refine call_k A0 ?_ | refine call_d A0 ?_
  simp -implicitDefEqProofs only [go_sem, reduceIte, Nat.reduceAdd, Nat.reduceSub, Nat.reduceMul, Nat.reduceLT, Nat.reduceLeDiff, Nat.reduceEqDiff, Nat.reduceBEq, Int.reduceLE, Int.reduceLT, Int.reduceToNat, Int.reduceMul, Int.reduceAdd, Int.reduceSub, Int.reduceNeg, Int.reduceEq, reduceCtorEq, Nat.reduceMod, e0]
  first | refine call_k A1 ?_ | refine call_d A1 ?_
  simp -implicitDefEqProofs only [go_sem, reduceIte, Nat.reduceAdd, Nat.reduceSub, Nat.reduceMul, Nat.reduceLT, Nat.reduceLeDiff, Nat.reduceEqDiff, Nat.reduceBEq, Int.reduceLE, Int.reduceLT, Int.reduceToNat, Int.reduceMul, Int.reduceAdd, Int.reduceSub, Int.reduceNeg, Int.reduceEq, reduceCtorEq, Nat.reduceMod, e1]
  first | refine call_k A3 ?_ | refine call_d A3 ?_
  simp -implicitDefEqProofs only [go_sem, reduceIte, Nat.reduceAdd, Nat.reduceSub, Nat.reduceMul, Nat.reduceLT, Nat.reduceLeDiff, Nat.reduceEqDiff, Nat.reduceBEq, Int.reduceLE, Int.reduceLT, Int.reduceToNat, Int.reduceMul, Int.reduceAdd, Int.reduceSub, Int.reduceNeg, Int.reduceEq, reduceCtorEq, Nat.reduceMod]
  refine ends_mk [4] ?_ ?_
  · simp -implicitDefEqProofs only [go_sem, reduceIte, Nat.reduceAdd, Nat.reduceSub, Nat.reduceMul, Nat.reduceLT, Nat.reduceLeDiff, Nat.reduceEqDiff, Nat.reduceBEq, Int.reduceLE, Int.reduceLT, Int.reduceToNat, Int.reduceMul, Int.reduceAdd, Int.reduceSub, Int.reduceNeg, Int.reduceEq, reduceCtorEq, Nat.reduceMod]
  · simp -implicitDefEqProofs only [go_sem, reduceIte, Nat.reduceAdd, Nat.reduceSub, Nat.reduceMul, Nat.reduceLT, Nat.reduceLeDiff, Nat.reduceEqDiff, Nat.reduceBEq, Int.reduceLE, Int.reduceLT, Int.reduceToNat, Int.reduceMul, Int.reduceAdd, Int.reduceSub, Int.reduceNeg, Int.reduceEq, reduceCtorEq, Nat.reduceMod]
end Go.Proofs.Ytdpnjhooehadmaa.Pm
