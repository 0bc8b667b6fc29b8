/- frame's reference: scans, rows of records. No law of Go's is stated here. -/
import Derived.Test.YtadnjellfiafaaaPmFl
set_option linter.all false
set_option maxRecDepth 100000
namespace Go.Proofs.Ytadnjellfiafaaa.Pm
open Go Go.RowKit

theorem s_ref03_Scan_many (bs : List (BitVec 8)) (hl : 20000 < bs.length) : Spec Try.prog 25 [.sl (bT bs)] [] (.tup [.t (.sl []) true, .t (.i .i64 0) true, .t (.i .i64 4) true]) := by
  refine spec_k (hold mixed) b_ref03_Scan [(.sl [], true), (.i .i64 0, true), (.i .i64 4, true)] ?_
  have h1 : ((bs.length : Int) > 20000) = True := eq_true (by omega)
  simp -implicitDefEqProofs only [go_sem, reduceIte, Nat.reduceAdd, Nat.reduceSub, Nat.reduceMul, Nat.reduceLT, Nat.reduceLeDiff, Nat.reduceEqDiff, Nat.reduceBEq, Int.reduceLE, Int.reduceLT, Int.reduceToNat, Int.reduceMul, Int.reduceAdd, Int.reduceSub, Int.reduceNeg, Int.reduceEq, reduceCtorEq, Nat.reduceMod, h1]
theorem s_ref03_Scan_ok (bs : List (BitVec 8)) (hl : bs.length ≤ 20000) : Spec Try.prog 25 [.sl (bT bs)] [] (.tup [.t (.sl (recsT (scanL bs))) true, .t (.i .i64 (catR (scanL bs)).length) true, .t (.i .i64 0) true]) := by
  refine spec_k (hold mixed) b_ref03_Scan [(.sl (recsT (scanL bs)), true), (.i .i64 (catR (scanL bs)).length, true), (.i .i64 0, true)] ?_
  have h1 : ((bs.length : Int) > 20000) = False := eq_false (by omega)
  simp -implicitDefEqProofs only [go_sem, reduceIte, Nat.reduceAdd, Nat.reduceSub, Nat.reduceMul, Nat.reduceLT, Nat.reduceLeDiff, Nat.reduceEqDiff, Nat.reduceBEq, Int.reduceLE, Int.reduceLT, Int.reduceToNat, Int.reduceMul, Int.reduceAdd, Int.reduceSub, Int.reduceNeg, Int.reduceEq, reduceCtorEq, Nat.reduceMod, h1]
  refine call_k (s_ref03_Found bs (by omega)) ?_
  simp -implicitDefEqProofs only [go_sem, reduceIte, Nat.reduceAdd, Nat.reduceSub, Nat.reduceMul, Nat.reduceLT, Nat.reduceLeDiff, Nat.reduceEqDiff, Nat.reduceBEq, Int.reduceLE, Int.reduceLT, Int.reduceToNat, Int.reduceMul, Int.reduceAdd, Int.reduceSub, Int.reduceNeg, Int.reduceEq, reduceCtorEq, Nat.reduceMod]
/-- Records that are valid, with numbers one behind the other. -/
def follows : List Rec → Bool
  | [] => true
  | [r] => r.ok
  | r :: s :: l => r.ok && (decide (s.num = r.num + 1) && follows (s :: l))
def followsAt (l : List Rec) (k : Nat) : Bool := match l[k]? with
  | some r => r.ok && (match k with
    | 0 => true
    | j + 1 => match l[j]? with
      | some p => decide (r.num = p.num + 1)
      | none => true)
  | none => true
theorem follows_iff (l : List Rec) : follows l = true ↔ ∀ k, k < l.length → followsAt l k = true := by
  match l with
  | [] => simp [follows]
  | [r] =>
    simp only [follows]
    refine ⟨fun h k hk => ?_, fun h => ?_⟩
    · simp at hk; subst hk; simp [followsAt, h]
    · have := h 0 (by simp); simpa [followsAt] using this
  | r :: s :: l =>
    have ih := follows_iff (s :: l)
    simp only [follows, Bool.and_eq_true, decide_eq_true_eq, ih]
    refine ⟨fun ⟨h1, h2, h3⟩ k hk => ?_, fun h => ⟨?_, ?_, fun k hk => ?_⟩⟩
    · match k with
      | 0 => simp [followsAt, h1]
      | 1 =>
        have := h3 0 (by simp)
        simp only [followsAt] at this ⊢
        simp at this ⊢
        exact ⟨this, h2⟩
      | k + 2 =>
        have := h3 (k + 1) (by simpa using hk)
        simpa [followsAt] using this
    · have := h 0 (by simp); simpa [followsAt] using this
    · have := h 1 (by simp); simp [followsAt] at this; exact this.2
    · have := h (k + 1) (by simpa using hk)
      match k with
      | 0 => simp [followsAt] at this ⊢; exact this.1
      | k + 1 => simpa [followsAt] using this
theorem s_ref03_Following (l : List Rec) (hn : l.length ≤ 1000000) : Spec Try.prog 37 [.sl (recsT l)] [] (.t (.b (follows l)) true) := by
  refine spec_k (hold mixed) b_ref03_Following [(.b (follows l), true)] ?_
  simp -implicitDefEqProofs only [go_sem, reduceIte, Nat.reduceAdd, Nat.reduceSub, Nat.reduceMul, Nat.reduceLT, Nat.reduceLeDiff, Nat.reduceEqDiff, Nat.reduceBEq, Int.reduceLE, Int.reduceLT, Int.reduceToNat, Int.reduceMul, Int.reduceAdd, Int.reduceSub, Int.reduceNeg, Int.reduceEq, reduceCtorEq, Nat.reduceMod]
  refine loop_l (α := Nat) (fun k => ⟨tmL [(0, .t (.sl (recsT l)) false), (3, .t (.i .i64 k) true)], []⟩) (fun k => l.length - k) (fun k => k ≤ l.length ∧ ∀ j, j < k → followsAt l j = true) 0 (by simp -implicitDefEqProofs only [go_sem, reduceIte, Nat.reduceAdd, Nat.reduceSub, Nat.reduceMul, Nat.reduceLT, Nat.reduceLeDiff, Nat.reduceEqDiff, Nat.reduceBEq, Int.reduceLE, Int.reduceLT, Int.reduceToNat, Int.reduceMul, Int.reduceAdd, Int.reduceSub, Int.reduceNeg, Int.reduceEq, reduceCtorEq, Nat.reduceMod]; rfl) ⟨by omega, by omega⟩ ?_
  rintro k ⟨hk, he⟩ R hR
  simp -implicitDefEqProofs only [go_sem, reduceIte, Nat.reduceAdd, Nat.reduceSub, Nat.reduceMul, Nat.reduceLT, Nat.reduceLeDiff, Nat.reduceEqDiff, Nat.reduceBEq, Int.reduceLE, Int.reduceLT, Int.reduceToNat, Int.reduceMul, Int.reduceAdd, Int.reduceSub, Int.reduceNeg, Int.reduceEq, reduceCtorEq, Nat.reduceMod, recsT_length]
  refine wcond_mk (fun h => ?_) (fun h => ?_)
  · have hk' : k < l.length := by have := of_decide_eq_true h; omega
    have hlt : (((k : Nat) : Int) < ((l.length : Nat) : Int)) = True := eq_true (by omega)
    have hno : followsAt l k = false → follows l = false := fun hf => by
      cases hx : follows l with
      | false => rfl
      | true => rw [(follows_iff l).1 hx k hk'] at hf; cases hf
    have hnext : followsAt l k = true → (k + 1 ≤ l.length ∧ ∀ j, j < k + 1 → followsAt l j = true) := fun ht => ⟨by omega, fun j hj => by
      by_cases e : j = k
      · subst e; exact ht
      · exact he j (by omega)⟩
    simp -implicitDefEqProofs only [go_sem, reduceIte, Nat.reduceAdd, Nat.reduceSub, Nat.reduceMul, Nat.reduceLT, Nat.reduceLeDiff, Nat.reduceEqDiff, Nat.reduceBEq, Int.reduceLE, Int.reduceLT, Int.reduceToNat, Int.reduceMul, Int.reduceAdd, Int.reduceSub, Int.reduceNeg, Int.reduceEq, reduceCtorEq, Nat.reduceMod, recsT_get hk', recsT_length, Rec.cells]
    refine call_d (s_ref03_Valid l[k]) ?_ (by simp -implicitDefEqProofs only [go_sem, reduceIte, Nat.reduceAdd, Nat.reduceSub, Nat.reduceMul, Nat.reduceLT, Nat.reduceLeDiff, Nat.reduceEqDiff, Nat.reduceBEq, Int.reduceLE, Int.reduceLT, Int.reduceToNat, Int.reduceMul, Int.reduceAdd, Int.reduceSub, Int.reduceNeg, Int.reduceEq, reduceCtorEq, Nat.reduceMod, Rec.cells])
    cases hok : l[k].ok with
    | false =>
      simp -implicitDefEqProofs only [go_sem, reduceIte, Nat.reduceAdd, Nat.reduceSub, Nat.reduceMul, Nat.reduceLT, Nat.reduceLeDiff, Nat.reduceEqDiff, Nat.reduceBEq, Int.reduceLE, Int.reduceLT, Int.reduceToNat, Int.reduceMul, Int.reduceAdd, Int.reduceSub, Int.reduceNeg, Int.reduceEq, reduceCtorEq, Nat.reduceMod, hok, hno (by simp [followsAt, hk', hok])]
    | true =>
      cases k with
      | zero =>
        have ht : followsAt l 0 = true := by simp [followsAt, hk', hok]
        simp -implicitDefEqProofs only [go_sem, reduceIte, Nat.reduceAdd, Nat.reduceSub, Nat.reduceMul, Nat.reduceLT, Nat.reduceLeDiff, Nat.reduceEqDiff, Nat.reduceBEq, Int.reduceLE, Int.reduceLT, Int.reduceToNat, Int.reduceMul, Int.reduceAdd, Int.reduceSub, Int.reduceNeg, Int.reduceEq, reduceCtorEq, Nat.reduceMod, hok, Int.natCast_zero, gt_iff_lt, Int.lt_irrefl]
        refine hR 1 _ ?_ (hnext ht) (by omega)
        simp -implicitDefEqProofs only [go_sem, reduceIte, Nat.reduceAdd, Nat.reduceSub, Nat.reduceMul, Nat.reduceLT, Nat.reduceLeDiff, Nat.reduceEqDiff, Nat.reduceBEq, Int.reduceLE, Int.reduceLT, Int.reduceToNat, Int.reduceMul, Int.reduceAdd, Int.reduceSub, Int.reduceNeg, Int.reduceEq, reduceCtorEq, Nat.reduceMod, wrap_i64_id (show -9223372036854775808 ≤ (0 : Int) + 1 by omega) (by omega)]
        rfl
      | succ j =>
        have hj : j < l.length := by omega
        have hg0 : (((j + 1 : Nat) : Int) > 0) = True := eq_true (by omega)
        have hw1 : IntKind.i64.wrap (((j + 1 : Nat) : Int) - 1) = (j : Int) := by rw [wrap_i64_id (by omega) (by omega)]; omega
        have hltj : ((j : Int) < (l.length : Int)) = True := eq_true (by omega)
        have hokj : l[j].ok = true := by
          have := he j (by omega)
          simp only [followsAt, List.getElem?_eq_getElem hj, Bool.and_eq_true] at this
          exact this.1
        obtain ⟨k0, k1, k2⟩ := l[j].ok_iff.1 hokj
        have wp : IntKind.i64.wrap (l[j].num + 1) = l[j].num + 1 := wrap_i64_id (by omega) (by omega)
        by_cases g5 : l[j + 1].num = l[j].num + 1
        · have f5 : (l[j + 1].num != l[j].num + 1) = false := by rw [g5]; simp
          have ht : followsAt l (j + 1) = true := by
            simp only [followsAt, List.getElem?_eq_getElem hk', List.getElem?_eq_getElem hj, hok, g5, decide_true, Bool.and_self]
          simp -implicitDefEqProofs only [go_sem, reduceIte, Nat.reduceAdd, Nat.reduceSub, Nat.reduceMul, Nat.reduceLT, Nat.reduceLeDiff, Nat.reduceEqDiff, Nat.reduceBEq, Int.reduceLE, Int.reduceLT, Int.reduceToNat, Int.reduceMul, Int.reduceAdd, Int.reduceSub, Int.reduceNeg, Int.reduceEq, reduceCtorEq, Nat.reduceMod, hok, hg0, hw1, hlt, hltj, recsT_get hj, recsT_get hk', recsT_length, Rec.cells, wp, f5]
          refine hR (j + 1 + 1) _ ?_ (hnext ht) (by omega)
          have wj : IntKind.i64.wrap (((j + 1 : Nat) : Int) + 1) = ((j + 1 + 1 : Nat) : Int) := by rw [wrap_i64_id (by omega) (by omega)]; omega
          simp -implicitDefEqProofs only [go_sem, reduceIte, Nat.reduceAdd, Nat.reduceSub, Nat.reduceMul, Nat.reduceLT, Nat.reduceLeDiff, Nat.reduceEqDiff, Nat.reduceBEq, Int.reduceLE, Int.reduceLT, Int.reduceToNat, Int.reduceMul, Int.reduceAdd, Int.reduceSub, Int.reduceNeg, Int.reduceEq, reduceCtorEq, Nat.reduceMod, wj]
        · have f5 : (l[j + 1].num != l[j].num + 1) = true := by rw [bne_iff_ne]; exact g5
          have ht : followsAt l (j + 1) = false := by
            simp only [followsAt, List.getElem?_eq_getElem hk', List.getElem?_eq_getElem hj, decide_eq_false g5, Bool.and_false]
          simp -implicitDefEqProofs only [go_sem, reduceIte, Nat.reduceAdd, Nat.reduceSub, Nat.reduceMul, Nat.reduceLT, Nat.reduceLeDiff, Nat.reduceEqDiff, Nat.reduceBEq, Int.reduceLE, Int.reduceLT, Int.reduceToNat, Int.reduceMul, Int.reduceAdd, Int.reduceSub, Int.reduceNeg, Int.reduceEq, reduceCtorEq, Nat.reduceMod, hok, hg0, hw1, hlt, hltj, recsT_get hj, recsT_get hk', recsT_length, Rec.cells, wp, f5, hno ht]
  · have hk' : ¬ k < l.length := by have := of_decide_eq_false h; omega
    obtain rfl : k = l.length := by omega
    have ht : follows l = true := (follows_iff l).2 he
    simp -implicitDefEqProofs only [go_sem, reduceIte, Nat.reduceAdd, Nat.reduceSub, Nat.reduceMul, Nat.reduceLT, Nat.reduceLeDiff, Nat.reduceEqDiff, Nat.reduceBEq, Int.reduceLE, Int.reduceLT, Int.reduceToNat, Int.reduceMul, Int.reduceAdd, Int.reduceSub, Int.reduceNeg, Int.reduceEq, reduceCtorEq, Nat.reduceMod, ht]
theorem bT_setN (bs : List (BitVec 8)) (k : Nat) (v : BitVec 8) : (bT bs).set k [T.i .u8 v.toNat] = bT (bs.set k v) := by
  simp [bT, List.map_set]
theorem setT_one (t : T) (new : List T) (h : new.length = 1) : setT [t] 0 new = new := by
  simp [setT, h]
/-- What a scan returns. -/
def scanR (bs : List (BitVec 8)) : List Rec := if bs.length ≤ 20000 then scanL bs else []
def scanN (bs : List (BitVec 8)) : Int := if bs.length ≤ 20000 then (catR (scanL bs)).length else 0
def scanE' (bs : List (BitVec 8)) : Int := if bs.length ≤ 20000 then 0 else 4
theorem s_frame_Scan (bs : List (BitVec 8)) : Spec Try.prog 24 [.sl (bT bs)] [] (.tup [.t (.sl (recsT (scanR bs))) true, .t (.i .i64 (scanN bs)) true, .t (.i .i64 (scanE' bs)) true]) := by
  unfold scanR scanN scanE'
  by_cases h : bs.length ≤ 20000
  · simp only [if_pos h]; exact s_frame_Scan_ok bs h
  · simp only [if_neg h]; exact s_frame_Scan_many bs (by omega)
theorem s_ref03_Scan (bs : List (BitVec 8)) : Spec Try.prog 25 [.sl (bT bs)] [] (.tup [.t (.sl (recsT (scanR bs))) true, .t (.i .i64 (scanN bs)) true, .t (.i .i64 (scanE' bs)) true]) := by
  unfold scanR scanN scanE'
  by_cases h : bs.length ≤ 20000
  · simp only [if_pos h]; exact s_ref03_Scan_ok bs h
  · simp only [if_neg h]; exact s_ref03_Scan_many bs (by omega)
theorem catR_mem {l : List Rec} {r : Rec} (h : r ∈ l) : r.data.length ≤ (catR l).length := by
  induction l with
  | nil => cases h
  | cons x l ih =>
    have e : catR (x :: l) = bytesL x ++ catR l := by unfold catR; rw [List.map_cons, List.flatten_cons]
    rw [e, List.length_append, bytesL_length]
    rcases List.mem_cons.1 h with rfl | h
    · omega
    · have := ih h; omega
theorem scanL_len (bs : List (BitVec 8)) : (catR (scanL bs)).length ≤ bs.length := by
  obtain ⟨q, hq⟩ := (scanL_ok bs).bytes
  have := congrArg List.length hq
  rw [List.length_append] at this
  omega
theorem scanR_len (bs : List (BitVec 8)) : (scanR bs).length ≤ 20000 := by
  unfold scanR
  split
  · have := catR_many (scanL bs)
    have := scanL_len bs
    omega
  · simp
theorem scanR_data (bs : List (BitVec 8)) : ∀ r ∈ scanR bs, r.data.length ≤ 20000 := by
  unfold scanR
  split
  · intro r hr
    have := catR_mem hr
    have := scanL_len bs
    omega
  · simp
end Go.Proofs.Ytadnjellfiafaaa.Pm
