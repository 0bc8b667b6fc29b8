/- frame: the scan. No law of Go's is stated here. -/
import Derived.Test.YtadnjellfiafaaaPmFj
set_option linter.all false
set_option maxRecDepth 100000
namespace Go.Proofs.Ytadnjellfiafaaa.Pm
open Go Go.RowKit

def scanB (C24 : C) : C := (.seq (.seq (.seq (.reg ([⟨some 11, .move (.tmp 0), none⟩, ⟨some 12, .call { callee := .builtin .len, args := #[(.tmp 11)], argTypes := #[22] }, none⟩, ⟨some 13, .binOp .gtr 3 (.tmp 12) (.const (.int .i64 20000)) 3, none⟩])) (.keep [0, 13])) c_frame_Scan_1) (.seq (.seq (.reg ([⟨some 5, .assign (.const (.slice none 0 0)), none⟩])) (.keep [0, 5])) (.seq (.seq (.reg ([⟨some 6, .alloc 51, none⟩])) (.keep [0, 5, 6])) (.seq (.seq (.reg ([⟨some 7, .assign (.const (.int .i64 0)), none⟩])) (.keep [0, 5, 6, 7])) (.seq .label C24)))))
theorem scanB_eq : c_frame_Scan_29 = scanB c_frame_Scan_24 := rfl
theorem s_frame_Scan_many (bs : List (BitVec 8)) (hl : 20000 < bs.length) : Spec Try.prog 24 [.sl (bT bs)] [] (.tup [.t (.sl []) true, .t (.i .i64 0) true, .t (.i .i64 4) true]) := by
  refine spec_k (hold mixed) b_frame_Scan [(.sl [], true), (.i .i64 0, true), (.i .i64 4, true)] ?_
  simp -implicitDefEqProofs only [go_sem, reduceIte, Nat.reduceAdd, Nat.reduceSub, Nat.reduceMul, Nat.reduceLT, Nat.reduceLeDiff, Nat.reduceEqDiff, Nat.reduceBEq, Int.reduceLE, Int.reduceLT, Int.reduceToNat, Int.reduceMul, Int.reduceAdd, Int.reduceSub, Int.reduceNeg, Int.reduceEq, reduceCtorEq, Nat.reduceMod]
  refine scope_2 (fun _ _ => False) (fun _ _ => False) (by decide) ?_ (by simp) (by simp)
  have h1 : ((bs.length : Int) > 20000) = True := eq_true (by omega)
  simp -implicitDefEqProofs only [go_sem, reduceIte, Nat.reduceAdd, Nat.reduceSub, Nat.reduceMul, Nat.reduceLT, Nat.reduceLeDiff, Nat.reduceEqDiff, Nat.reduceBEq, Int.reduceLE, Int.reduceLT, Int.reduceToNat, Int.reduceMul, Int.reduceAdd, Int.reduceSub, Int.reduceNeg, Int.reduceEq, reduceCtorEq, Nat.reduceMod, h1]
theorem s_frame_Scan_ok (bs : List (BitVec 8)) (hl : bs.length ≤ 20000) : Spec Try.prog 24 [.sl (bT bs)] [] (.tup [.t (.sl (recsT (scanL bs))) true, .t (.i .i64 (catR (scanL bs)).length) true, .t (.i .i64 0) true]) := by
  refine spec_k (hold mixed) b_frame_Scan [(.sl (recsT (scanL bs)), true), (.i .i64 (catR (scanL bs)).length, true), (.i .i64 0, true)] ?_
  simp -implicitDefEqProofs only [go_sem, reduceIte, Nat.reduceAdd, Nat.reduceSub, Nat.reduceMul, Nat.reduceLT, Nat.reduceLeDiff, Nat.reduceEqDiff, Nat.reduceBEq, Int.reduceLE, Int.reduceLT, Int.reduceToNat, Int.reduceMul, Int.reduceAdd, Int.reduceSub, Int.reduceNeg, Int.reduceEq, reduceCtorEq, Nat.reduceMod]
  refine scope_2 (fun n s => ∃ M r b1, cut [0, 5, 6, 7] 3 (adopt [(5, 2)] s) = scanG bs (M ++ [r]) M.length (.var (scanV r)) b1 ∧ ScanOK bs (M ++ [r]) ∧ scanF bs n (M ++ [r]) = scanL bs ∧ bs.length < n + (catR (M ++ [r])).length)
    (fun n s => (∃ M ver b0 b1, cut [0, 5, 6, 7] 3 (adopt [(5, 2)] s) = scanG bs M ver b0 b1 ∧ scanL bs = M) ∨ (∃ b0, cut [0, 5, 6, 7] 3 (adopt [(5, 2)] s) = scanE bs b0 ∧ scanL bs = [])) (by decide) ?_ ?_ ?_
  · have h1 : ((bs.length : Int) > 20000) = False := eq_false (by omega)
    rw [scanB_eq]
    generalize hC : c_frame_Scan_24 = C24
    simp -implicitDefEqProofs only [go_sem, reduceIte, Nat.reduceAdd, Nat.reduceSub, Nat.reduceMul, Nat.reduceLT, Nat.reduceLeDiff, Nat.reduceEqDiff, Nat.reduceBEq, Int.reduceLE, Int.reduceLT, Int.reduceToNat, Int.reduceMul, Int.reduceAdd, Int.reduceSub, Int.reduceNeg, Int.reduceEq, reduceCtorEq, Nat.reduceMod, h1, scanB]
    subst hC
    have hF0 : scanL bs = scanF bs (bs.length + 1) [] := rfl
    refine scan_first bs hl _ (fun r s' hr hs => ?_) (fun s' hr hs => ?_)
    · rw [gotoF_g]
      obtain ⟨b1, hs⟩ := hs
      have hln := (nextL_len hr (by simp [catR])).2
      refine ⟨bs.length, .inl ⟨rfl, [], r, b1, hs, scanOK_step (scanOK_nil bs) hr, ?_, ?_⟩⟩
      · rw [hF0, scanF, hr]
      · rw [hln]
        simp [catR]
        omega
    · rw [gotoF_g]
      obtain ⟨b0, hs⟩ := hs
      exact ⟨0, .inr ⟨rfl, .inr ⟨b0, hs, by rw [hF0, scanF, hr]⟩⟩⟩
  · rintro n s ⟨M, r, b1, hs, hok, hF, hn⟩
    refine ⟨3, ?_⟩
    have hle : (catR (M ++ [r])).length ≤ bs.length := by
      obtain ⟨q, hq⟩ := hok.bytes
      have := congrArg List.length hq
      rw [List.length_append] at this
      omega
    obtain ⟨n, rfl⟩ : ∃ k, n = k + 1 := ⟨n - 1, by omega⟩
    rw [hs]
    unfold c_frame_Scan_53
    rw [Wk_seq, Wk_skip, Rk_seq_n, scan_same]
    refine scan_round bs hl (M ++ [r]) hle (by simp) hok.ok M.length _ _ b1 _ (fun r' s' hr hs => ?_) (fun s' hr hs => ?_)
    · rw [gotoN_g]
      obtain ⟨b1, hs⟩ := hs
      have hln := (nextL_len hr hle).2
      refine ⟨n, Nat.lt_succ_self _, .inl ⟨rfl, M ++ [r], r', b1, ?_, scanOK_step hok hr, ?_, ?_⟩⟩
      · rw [hs]; simp
      · rw [← hF, scanF, hr]
      · rw [hln]; omega
    · rw [gotoN_g]
      obtain ⟨b0, b1, hs⟩ := hs
      exact ⟨0, Nat.succ_pos _, .inr ⟨rfl, .inl ⟨_, _, b0, b1, hs, by rw [← hF, scanF, hr]⟩⟩⟩
  · rintro n s (⟨M, ver, b0, b1, hs, hM⟩ | ⟨b0, hs, hM⟩)
    · refine ⟨3, ?_⟩
      rw [hs]
      have e1 : List.take M.length (recsT M) = recsT M := List.take_of_length_le (by rw [recsT_length]; exact Nat.le_refl _)
      simp -implicitDefEqProofs only [go_sem, reduceIte, Nat.reduceAdd, Nat.reduceSub, Nat.reduceMul, Nat.reduceLT, Nat.reduceLeDiff, Nat.reduceEqDiff, Nat.reduceBEq, Int.reduceLE, Int.reduceLT, Int.reduceToNat, Int.reduceMul, Int.reduceAdd, Int.reduceSub, Int.reduceNeg, Int.reduceEq, reduceCtorEq, Nat.reduceMod, scanG, recsT_length, hM, e1]
    · refine ⟨3, ?_⟩
      rw [hs]
      simp -implicitDefEqProofs only [go_sem, reduceIte, Nat.reduceAdd, Nat.reduceSub, Nat.reduceMul, Nat.reduceLT, Nat.reduceLeDiff, Nat.reduceEqDiff, Nat.reduceBEq, Int.reduceLE, Int.reduceLT, Int.reduceToNat, Int.reduceMul, Int.reduceAdd, Int.reduceSub, Int.reduceNeg, Int.reduceEq, reduceCtorEq, Nat.reduceMod, scanE, hM, catR_nil, Int.natCast_zero]
      rfl
end Go.Proofs.Ytadnjellfiafaaa.Pm
