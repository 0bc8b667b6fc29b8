/- wal: the statement WalReads. No law of Go's is stated here. -/
import Derived.Test.YtdpnjhooehadmaaPmMh
import Derived.Test.YtdpnjhooehadmaaPmKx
set_option linter.all false
set_option maxRecDepth 100000
set_option maxHeartbeats 2000000
namespace Go.Proofs.Ytdpnjhooehadmaa.Pm
open Go Go.RowKit

theorem recR_eq {l : WLog} {n : Int} : ∀ r ∈ (recR l n).1, r.data.length ≤ 1000000 := by
  intro r hr
  unfold recR at hr
  split at hr
  · split at hr
    · have hm : r ∈ scanL l.dev.all := List.mem_of_mem_drop hr
      have := r.ok_iff.1 ((scanL_ok l.dev.all).ok r hm)
      omega
    · cases hr
  · cases hr
theorem recR_len {l : WLog} (hd : l.dev.small) {n : Int} : (recR l n).1.length ≤ 1000000 := by
  have h1 := bytes_count (scanL_ok l.dev.all)
  have h2 : l.dev.all.length ≤ 200000 := by have := hd.1; have := hd.2; simp [Dev.all]; omega
  unfold recR
  split
  · split
    · show (List.drop _ (scanL l.dev.all)).length ≤ _
      rw [List.length_drop]
      omega
    · exact Nat.zero_le _
  · exact Nat.zero_le _
def wreadsF (l : WLog) (n : Int) (k : Nat) (bs : List (BitVec 8)) : S := ⟨tmL [(5, .ptr 3 0), (6, .t (.i .i64 (syncR l).1) true), (7, .t (.i .i64 (syncR l).2) true), (8, .t (.i .i64 (syncR l).1) true), (9, .t (.i .i64 (syncR l).2) true), (10, .t (.sl (recsT (recR l n).1)) true), (11, .t (.i .i64 (recR l n).2) true), (12, .t (.sl (recsT (recR l n).1)) true), (13, .t (.i .i64 (recR l n).2) true), (14, .t (.i .i64 k) true)],
  [.var [.t (.sl (bT l.dev.syn)) false, .t (.sl (bT l.dev.tail)) false, .t (.i .i64 l.dev.cap) false, .t (.b l.dev.down) false, .t (.i .i64 l.first) false, .t (.i .i64 l.next) false], .row 0 1 (bT bs) true, .row 0 1 (bT l.dev.tail) true,
   .var [.row 1 0 0 l.dev.syn.length, .row 2 0 0 l.dev.tail.length, .t (.i .i64 l.dev.cap) true, .t (.b l.dev.down) true, .t (.i .i64 l.first) true, .t (.i .i64 l.next) true]]⟩
theorem law_WalReads (l : WLog) (n : Int) (hf0 : -9223372036854775808 ≤ l.first) (hf1 : l.first ≤ 9223372036854775807) (hn0 : -9223372036854775808 ≤ l.next) (hn1 : l.next ≤ 9223372036854775807) (h0 : -9223372036854775808 ≤ n) (h1 : n ≤ 9223372036854775807) : Spec Try.prog 3 [.agg l.cells, .i .i64 n] [] (.t (.b true) true) := by
  refine spec_k (hold mixed) b_law04_WalReads [(.b true, true)] ?_
  by_cases hg : great4 l.dev = true
  · simp -implicitDefEqProofs only [go_sem, reduceIte, Nat.reduceAdd, Nat.reduceSub, Nat.reduceMul, Nat.reduceLT, Nat.reduceLeDiff, Nat.reduceEqDiff, Nat.reduceBEq, Int.reduceLE, Int.reduceLT, Int.reduceToNat, Int.reduceMul, Int.reduceAdd, Int.reduceSub, Int.reduceNeg, Int.reduceEq, reduceCtorEq, Nat.reduceMod]
    refine call_k (s_ref04_Great l.dev) ?_
    simp -implicitDefEqProofs only [go_sem, reduceIte, Nat.reduceAdd, Nat.reduceSub, Nat.reduceMul, Nat.reduceLT, Nat.reduceLeDiff, Nat.reduceEqDiff, Nat.reduceBEq, Int.reduceLE, Int.reduceLT, Int.reduceToNat, Int.reduceMul, Int.reduceAdd, Int.reduceSub, Int.reduceNeg, Int.reduceEq, reduceCtorEq, Nat.reduceMod, hg]
  replace hg : great4 l.dev = false := by simpa using hg
  have hd : l.dev.small := by simp [great4] at hg; exact ⟨by omega, by omega⟩
  have hl : l.fine := ⟨hd, hf0, hf1, hn0, hn1⟩
  simp -implicitDefEqProofs only [go_sem, reduceIte, Nat.reduceAdd, Nat.reduceSub, Nat.reduceMul, Nat.reduceLT, Nat.reduceLeDiff, Nat.reduceEqDiff, Nat.reduceBEq, Int.reduceLE, Int.reduceLT, Int.reduceToNat, Int.reduceMul, Int.reduceAdd, Int.reduceSub, Int.reduceNeg, Int.reduceEq, reduceCtorEq, Nat.reduceMod]
  refine call_k (s_ref04_Great l.dev) ?_
  simp -implicitDefEqProofs only [go_sem, reduceIte, Nat.reduceAdd, Nat.reduceSub, Nat.reduceMul, Nat.reduceLT, Nat.reduceLeDiff, Nat.reduceEqDiff, Nat.reduceBEq, Int.reduceLE, Int.reduceLT, Int.reduceToNat, Int.reduceMul, Int.reduceAdd, Int.reduceSub, Int.reduceNeg, Int.reduceEq, reduceCtorEq, Nat.reduceMod, hg]
  refine call_k (s_ref04_Twin l hd) ?_
  simp -implicitDefEqProofs only [go_sem, reduceIte, Nat.reduceAdd, Nat.reduceSub, Nat.reduceMul, Nat.reduceLT, Nat.reduceLeDiff, Nat.reduceEqDiff, Nat.reduceBEq, Int.reduceLE, Int.reduceLT, Int.reduceToNat, Int.reduceMul, Int.reduceAdd, Int.reduceSub, Int.reduceNeg, Int.reduceEq, reduceCtorEq, Nat.reduceMod]
  refine call_k (s_wal_Synced l hl) ?_ (by simp -implicitDefEqProofs only [go_sem, reduceIte, Nat.reduceAdd, Nat.reduceSub, Nat.reduceMul, Nat.reduceLT, Nat.reduceLeDiff, Nat.reduceEqDiff, Nat.reduceBEq, Int.reduceLE, Int.reduceLT, Int.reduceToNat, Int.reduceMul, Int.reduceAdd, Int.reduceSub, Int.reduceNeg, Int.reduceEq, reduceCtorEq, Nat.reduceMod, bT_take_self]) (by simp -implicitDefEqProofs only [go_sem, reduceIte, Nat.reduceAdd, Nat.reduceSub, Nat.reduceMul, Nat.reduceLT, Nat.reduceLeDiff, Nat.reduceEqDiff, Nat.reduceBEq, Int.reduceLE, Int.reduceLT, Int.reduceToNat, Int.reduceMul, Int.reduceAdd, Int.reduceSub, Int.reduceNeg, Int.reduceEq, reduceCtorEq, Nat.reduceMod, synT])
  simp -implicitDefEqProofs only [go_sem, reduceIte, Nat.reduceAdd, Nat.reduceSub, Nat.reduceMul, Nat.reduceLT, Nat.reduceLeDiff, Nat.reduceEqDiff, Nat.reduceBEq, Int.reduceLE, Int.reduceLT, Int.reduceToNat, Int.reduceMul, Int.reduceAdd, Int.reduceSub, Int.reduceNeg, Int.reduceEq, reduceCtorEq, Nat.reduceMod, synT]
  refine call_k (s_ref04_Synced l hl) ?_ (by simp -implicitDefEqProofs only [go_sem, reduceIte, Nat.reduceAdd, Nat.reduceSub, Nat.reduceMul, Nat.reduceLT, Nat.reduceLeDiff, Nat.reduceEqDiff, Nat.reduceBEq, Int.reduceLE, Int.reduceLT, Int.reduceToNat, Int.reduceMul, Int.reduceAdd, Int.reduceSub, Int.reduceNeg, Int.reduceEq, reduceCtorEq, Nat.reduceMod]) (by simp -implicitDefEqProofs only [go_sem, reduceIte, Nat.reduceAdd, Nat.reduceSub, Nat.reduceMul, Nat.reduceLT, Nat.reduceLeDiff, Nat.reduceEqDiff, Nat.reduceBEq, Int.reduceLE, Int.reduceLT, Int.reduceToNat, Int.reduceMul, Int.reduceAdd, Int.reduceSub, Int.reduceNeg, Int.reduceEq, reduceCtorEq, Nat.reduceMod, synT])
  simp -implicitDefEqProofs only [go_sem, reduceIte, Nat.reduceAdd, Nat.reduceSub, Nat.reduceMul, Nat.reduceLT, Nat.reduceLeDiff, Nat.reduceEqDiff, Nat.reduceBEq, Int.reduceLE, Int.reduceLT, Int.reduceToNat, Int.reduceMul, Int.reduceAdd, Int.reduceSub, Int.reduceNeg, Int.reduceEq, reduceCtorEq, Nat.reduceMod, synT]
  refine call_k (s_wal_Records l hl n h0 h1) ?_ (by simp -implicitDefEqProofs only [go_sem, reduceIte, Nat.reduceAdd, Nat.reduceSub, Nat.reduceMul, Nat.reduceLT, Nat.reduceLeDiff, Nat.reduceEqDiff, Nat.reduceBEq, Int.reduceLE, Int.reduceLT, Int.reduceToNat, Int.reduceMul, Int.reduceAdd, Int.reduceSub, Int.reduceNeg, Int.reduceEq, reduceCtorEq, Nat.reduceMod, bT_take_self]) (by simp -implicitDefEqProofs only [go_sem, reduceIte, Nat.reduceAdd, Nat.reduceSub, Nat.reduceMul, Nat.reduceLT, Nat.reduceLeDiff, Nat.reduceEqDiff, Nat.reduceBEq, Int.reduceLE, Int.reduceLT, Int.reduceToNat, Int.reduceMul, Int.reduceAdd, Int.reduceSub, Int.reduceNeg, Int.reduceEq, reduceCtorEq, Nat.reduceMod, recT])
  simp -implicitDefEqProofs only [go_sem, reduceIte, Nat.reduceAdd, Nat.reduceSub, Nat.reduceMul, Nat.reduceLT, Nat.reduceLeDiff, Nat.reduceEqDiff, Nat.reduceBEq, Int.reduceLE, Int.reduceLT, Int.reduceToNat, Int.reduceMul, Int.reduceAdd, Int.reduceSub, Int.reduceNeg, Int.reduceEq, reduceCtorEq, Nat.reduceMod, recT]
  refine call_k (s_ref04_Records l hl n h0 h1) ?_ (by simp -implicitDefEqProofs only [go_sem, reduceIte, Nat.reduceAdd, Nat.reduceSub, Nat.reduceMul, Nat.reduceLT, Nat.reduceLeDiff, Nat.reduceEqDiff, Nat.reduceBEq, Int.reduceLE, Int.reduceLT, Int.reduceToNat, Int.reduceMul, Int.reduceAdd, Int.reduceSub, Int.reduceNeg, Int.reduceEq, reduceCtorEq, Nat.reduceMod]) (by simp -implicitDefEqProofs only [go_sem, reduceIte, Nat.reduceAdd, Nat.reduceSub, Nat.reduceMul, Nat.reduceLT, Nat.reduceLeDiff, Nat.reduceEqDiff, Nat.reduceBEq, Int.reduceLE, Int.reduceLT, Int.reduceToNat, Int.reduceMul, Int.reduceAdd, Int.reduceSub, Int.reduceNeg, Int.reduceEq, reduceCtorEq, Nat.reduceMod, recT])
  simp -implicitDefEqProofs only [go_sem, reduceIte, Nat.reduceAdd, Nat.reduceSub, Nat.reduceMul, Nat.reduceLT, Nat.reduceLeDiff, Nat.reduceEqDiff, Nat.reduceBEq, Int.reduceLE, Int.reduceLT, Int.reduceToNat, Int.reduceMul, Int.reduceAdd, Int.reduceSub, Int.reduceNeg, Int.reduceEq, reduceCtorEq, Nat.reduceMod, recT]
  refine loop_l (α := Nat × List (BitVec 8)) (fun p => wreadsF l n p.1 p.2) (fun p => l.dev.syn.length - p.1) (fun p => p.1 ≤ l.dev.syn.length ∧ p.2.length = l.dev.syn.length) (0, l.dev.syn) (by simp -implicitDefEqProofs only [go_sem, reduceIte, Nat.reduceAdd, Nat.reduceSub, Nat.reduceMul, Nat.reduceLT, Nat.reduceLeDiff, Nat.reduceEqDiff, Nat.reduceBEq, Int.reduceLE, Int.reduceLT, Int.reduceToNat, Int.reduceMul, Int.reduceAdd, Int.reduceSub, Int.reduceNeg, Int.reduceEq, reduceCtorEq, Nat.reduceMod, wreadsF]; rfl) ⟨Nat.zero_le _, rfl⟩ ?_
  rintro ⟨k, bs⟩ ⟨hk, hbs⟩ R hR
  replace hk : k ≤ l.dev.syn.length := hk
  have s1 : l.dev.syn.length ≤ 100000 := hd.1
  replace hbs : bs.length = l.dev.syn.length := hbs
  simp -implicitDefEqProofs only [go_sem, reduceIte, Nat.reduceAdd, Nat.reduceSub, Nat.reduceMul, Nat.reduceLT, Nat.reduceLeDiff, Nat.reduceEqDiff, Nat.reduceBEq, Int.reduceLE, Int.reduceLT, Int.reduceToNat, Int.reduceMul, Int.reduceAdd, Int.reduceSub, Int.reduceNeg, Int.reduceEq, reduceCtorEq, Nat.reduceMod, wreadsF]
  refine wcond_mk (fun h => ?_) (fun h => ?_)
  · have hk' : k < l.dev.syn.length := by have := of_decide_eq_true h; omega
    have hk2 : k < bs.length := by omega
    have hwb : IntKind.u8.wrap (((bs[k].toNat : Nat) : Int) + 1) = (((bs[k] + 1#8).toNat : Nat) : Int) := by
      rw [IntKind.wrap_u8', BitVec.toNat_add]; rfl
    have hset : (bT bs).set k (setT [T.i .u8 bs[k].toNat] 0 [T.i .u8 (bs[k] + 1#8).toNat]) = bT (bs.set k (bs[k] + 1#8)) := by
      rw [setT_one _ _ rfl, bT_setN]
    simp -implicitDefEqProofs only [go_sem, reduceIte, Nat.reduceAdd, Nat.reduceSub, Nat.reduceMul, Nat.reduceLT, Nat.reduceLeDiff, Nat.reduceEqDiff, Nat.reduceBEq, Int.reduceLE, Int.reduceLT, Int.reduceToNat, Int.reduceMul, Int.reduceAdd, Int.reduceSub, Int.reduceNeg, Int.reduceEq, reduceCtorEq, Nat.reduceMod, bT_get hk2, hwb, hset]
    refine ⟨⟨by omega, by omega⟩, ⟨by omega, by omega⟩, hR (k + 1, bs.set k (bs[k] + 1#8)) _ ?_ ⟨by omega, by simp [hbs]⟩ (by show _ - (k + 1) < _ - k; omega)⟩
    simp -implicitDefEqProofs only [go_sem, reduceIte, Nat.reduceAdd, Nat.reduceSub, Nat.reduceMul, Nat.reduceLT, Nat.reduceLeDiff, Nat.reduceEqDiff, Nat.reduceBEq, Int.reduceLE, Int.reduceLT, Int.reduceToNat, Int.reduceMul, Int.reduceAdd, Int.reduceSub, Int.reduceNeg, Int.reduceEq, reduceCtorEq, Nat.reduceMod, wrap_i64_id (show -9223372036854775808 ≤ (k : Int) + 1 by omega) (by omega), Int.natCast_add, wreadsF]
    rfl
  · have e1 : decide ((recR l n).1 = (recR l n).1) = true := by simp
    have b1 : ((syncR l).1 == (syncR l).1) = true := by simp
    have b2 : ((syncR l).2 == (syncR l).2) = true := by simp
    have b3 : ((recR l n).2 == (recR l n).2) = true := by simp
    simp -implicitDefEqProofs only [go_sem, reduceIte, Nat.reduceAdd, Nat.reduceSub, Nat.reduceMul, Nat.reduceLT, Nat.reduceLeDiff, Nat.reduceEqDiff, Nat.reduceBEq, Int.reduceLE, Int.reduceLT, Int.reduceToNat, Int.reduceMul, Int.reduceAdd, Int.reduceSub, Int.reduceNeg, Int.reduceEq, reduceCtorEq, Nat.reduceMod, b1, b2]
    first | refine call_k (s_ref03_Same (recR l n).1 (recR l n).1 (recR_len hd) recR_eq recR_eq) ?_ | refine call_d (s_ref03_Same (recR l n).1 (recR l n).1 (recR_len hd) recR_eq recR_eq) ?_
    simp -implicitDefEqProofs only [go_sem, reduceIte, Nat.reduceAdd, Nat.reduceSub, Nat.reduceMul, Nat.reduceLT, Nat.reduceLeDiff, Nat.reduceEqDiff, Nat.reduceBEq, Int.reduceLE, Int.reduceLT, Int.reduceToNat, Int.reduceMul, Int.reduceAdd, Int.reduceSub, Int.reduceNeg, Int.reduceEq, reduceCtorEq, Nat.reduceMod, e1, b3]
end Go.Proofs.Ytdpnjhooehadmaa.Pm
