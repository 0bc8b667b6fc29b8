/- journal: the facts of the statement JournalNames. No law of Go's is stated here. -/
import Derived.Test.YtlfpafdkegnkoaaPmMo
import Derived.Test.YtlfpafdkegnkoaaPmMc
set_option linter.all false
set_option maxRecDepth 100000
set_option maxHeartbeats 8000000
namespace Go.Proofs.Ytlfpafdkegnkoaa.Pm
open Go Go.RowKit
def K0 : Jr := (newJ 50).1
def K1 : Jr := (doJ K0 (0, 1)).1
def K2 : Jr := (doJ K1 (0, 1)).1
def Kw : Jr := ⟨J4.s, J4.l, [12, -2, 0, 0, 0, 0, 0, 1]⟩
def Kl : Jr := ⟨J4.s, ⟨⟨[], [], 100, false⟩, 3, 3⟩, [12, -2, 0, 0, 0, 0, 0, 0]⟩
def Ke : Jr := ⟨J4.s, ⟨⟨[], [], 100, false⟩, 1, 1⟩, [12, -2, 0, 0, 0, 0, 0, 0]⟩
def Kd : Jr := ⟨J4.s, ⟨⟨J4.l.dev.syn, J4.l.dev.tail, -1, J4.l.dev.down⟩, J4.l.first, J4.l.next⟩, [12, -2, 0, 0, 0, 0, 0, 0]⟩
def backB (st k : Int) : Bool := (crashJ J4 st k).2 == 0 && ((crashJ J4 st k).1.c == z8 && ((crashJ J4 st k).1.l.dev.down && ((crashJ J4 st k).1.s.d0.down && ((crashJ J4 st k).1.s.d1.down && recoveredB (crashJ J4 st k).1 0 (if st = 0 then [5, -2, 0, 0, 0, 0, 0, 0] else [12, -2, 0, 0, 0, 0, 0, 0]) (if st = 0 then 2 else 3)))))
theorem back_all : ∀ st : Fin 6, backB (st.val : Int) 0 = true := by decide +kernel
theorem back_84 : backB 3 84 = true := by decide +kernel
theorem back_83 : backB 3 83 = true := by decide +kernel
theorem jn_back (st k : Int) (s0 : -9223372036854775808 ≤ st) (s1 : st < 9223372036854775808) (k0 : -9223372036854775808 ≤ k) (k1 : k < 9223372036854775808) (h : backB st k = true) :
    ∃ s : Slt, ∃ w : WLog, s.d0.down = true ∧ s.d1.down = true ∧ w.dev.down = true ∧ Spec Try.prog 18 [.agg J4.cells, .i .i64 st, .i .i64 k] [] (resV ((opJ (⟨s, w, z8⟩, 0)).map AV.ofT)) ∧
      Spec Try.prog 20 [.agg (Jr.cells ⟨s, w, z8⟩), .i .i64 0, .agg (clT (if st = 0 then [5, -2, 0, 0, 0, 0, 0, 0] else [12, -2, 0, 0, 0, 0, 0, 0])), .i .i64 (if st = 0 then 2 else 3)] [] (.t (.b true) true) := by
  have hc := s_journal_Crash J4 fineJ4 st k s0 s1 k0 k1
  obtain ⟨f1, f2, f3⟩ := crashJ_fine fineJ4 st k
  have hr := s_law06_recovered (crashJ J4 st k).1 f1 f2 f3 0 (if st = 0 then [5, -2, 0, 0, 0, 0, 0, 0] else [12, -2, 0, 0, 0, 0, 0, 0]) (by split <;> rfl) (if st = 0 then 2 else 3)
  simp only [backB, Bool.and_eq_true, beq_iff_eq] at h
  obtain ⟨h1, h2, h3, h4, h5, h6⟩ := h
  rw [h6] at hr
  generalize crashJ J4 st k = p at *
  obtain ⟨⟨s, w, c⟩, e⟩ := p
  simp only at h1 h2 h3 h4 h5
  subst h1
  subst h2
  exact ⟨s, w, h4, h5, h3, hc, hr⟩
theorem jn_bad (st k : Int) (s0 : -9223372036854775808 ≤ st) (s1 : st < 9223372036854775808) (k0 : -9223372036854775808 ≤ k) (k1 : k < 9223372036854775808) (j : Jr) (hj : j.fine) (e : Int) (h : crashJ j st k = (zeroJ, e)) :
    Spec Try.prog 18 [.agg j.cells, .i .i64 st, .i .i64 k] [] (resV ((opJ (zeroJ, e)).map AV.ofT)) := by
  have hc := s_journal_Crash j hj st k s0 s1 k0 k1
  rw [h] at hc
  exact hc
theorem jn_ok (st k : Int) (s0 : -9223372036854775808 ≤ st) (s1 : st < 9223372036854775808) (k0 : -9223372036854775808 ≤ k) (k1 : k < 9223372036854775808) (j : Jr) (hj : j.fine) (e : Int) (h : (crashJ j st k).1.c = z8) (h' : (crashJ j st k).2 = e) :
    ∃ s : Slt, ∃ w : WLog, Spec Try.prog 18 [.agg j.cells, .i .i64 st, .i .i64 k] [] (resV ((opJ (⟨s, w, z8⟩, e)).map AV.ofT)) := by
  have hc := s_journal_Crash j hj st k s0 s1 k0 k1
  generalize crashJ j st k = p at *
  obtain ⟨⟨s, w, c⟩, e'⟩ := p
  simp only at h h'
  subst h
  subst h'
  exact ⟨s, w, hc⟩
theorem jn_do (j : Jr) (hj : j.fine) (m : Int × Int) (m0 : -9223372036854775808 ≤ m.2) (m1 : m.2 ≤ 9223372036854775807) (k : Jr) (n e : Int) (h : doJ j m = (k, n, e)) :
    Spec Try.prog 13 [.agg j.cells, .agg (mT m)] [] (resV ((opJ3 (k, n, e)).map AV.ofT)) := by
  have hc := s_journal_Do j hj m m0 m1
  rw [h] at hc
  exact hc
theorem fineK0 : K0.fine := by decide +kernel
theorem fineK1 : K1.fine := by decide +kernel
theorem fineK2 : K2.fine := by decide +kernel
theorem fineKw : Kw.fine := by decide +kernel
theorem fineKl : Kl.fine := by decide +kernel
theorem fineKe : Ke.fine := by decide +kernel
theorem fineZ : zeroJ.fine := by decide +kernel
theorem jn_new50 : newJ 50 = (K0, 0) := by decide +kernel
theorem jn_newg : newJ 20001 = (zeroJ, 2) := by decide +kernel
theorem jn_K1 : doJ K0 (0, 1) = (K1, 0, 0) := by decide +kernel
theorem jn_K2 : doJ K1 (0, 1) = (K2, 1, 0) := by decide +kernel
theorem jn_K3 : doJ K2 (0, 1) = (zeroJ, 0, 18) := by decide +kernel
theorem jn_d8 : doJ J4 (8, 0) = (zeroJ, 0, 2) := by decide +kernel
theorem jn_dm : doJ J4 (-1, 0) = (zeroJ, 0, 2) := by decide +kernel
theorem jn_da : doJ J4 (0, 1000001) = (zeroJ, 0, 2) := by decide +kernel
theorem jn_s1 : saveJ K1 = (zeroJ, 18) := by decide +kernel
theorem jn_c0 : K0.c = z8 ∧ K1.c = [1, 0, 0, 0, 0, 0, 0, 0] ∧ K2.c = [2, 0, 0, 0, 0, 0, 0, 0] ∧ J4.c = [12, -2, 0, 0, 0, 0, 0, 0] := by decide +kernel
theorem jn_c385 : crashJ J4 3 85 = (zeroJ, 2) := by decide +kernel
theorem jn_c022 : crashJ J4 0 22 = (zeroJ, 2) := by decide +kernel
theorem jn_c11 : crashJ J4 1 1 = (zeroJ, 2) := by decide +kernel
theorem jn_c5m : crashJ J4 5 (-1) = (zeroJ, 2) := by decide +kernel
theorem jn_c60 : crashJ J4 6 0 = (zeroJ, 2) := by decide +kernel
theorem jn_cm0 : crashJ J4 (-1) 0 = (zeroJ, 2) := by decide +kernel
theorem jn_c20 : crashJ K1 2 0 = (zeroJ, 18) := by decide +kernel
theorem jn_c10 : (crashJ K1 1 0).1.c = z8 ∧ (crashJ K1 1 0).2 = 0 := by decide +kernel
theorem jn_a1 : applyV [999999999, 0, 0, 0, 0, 0, 0, 0] [(0, 1), (0, 1)] = (z8, 16) := by decide +kernel
theorem jn_a2 : applyV [0, 0, -1000000001, 0, 0, 0, 0, 0] [] = (z8, 8) := by decide +kernel
theorem jn_a3 : applyV [999999999, 0, 0, 0, 0, 0, 0, 0] [(0, 1), (0, -1000000), (7, 3)] = ([999000000, 0, 0, 0, 0, 0, 0, 3], 0) := by decide +kernel
theorem jn_sy : syncJ Kw = (zeroJ, 8) := by decide +kernel
theorem jn_kl : Kl.chk = 8 := by decide +kernel
theorem jn_ke : Ke.chk = 8 := by decide +kernel
theorem jn_kz : zeroJ.chk = 8 := by decide +kernel
theorem jn_rd : recoverJ Kd = (zeroJ, 0, 8) := by decide +kernel
theorem jn_Kd : Kd.s.fine ∧ Kd.l.dev.small ∧ Kd.c.length = 8 := by decide +kernel
end Go.Proofs.Ytlfpafdkegnkoaa.Pm
