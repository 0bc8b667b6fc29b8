/- wal: plain facts: what appending and syncing leave; steps. No law of Go's is stated here. -/
import Derived.Test.YtdpnjhooehadmaaPmMj
set_option linter.all false
set_option maxRecDepth 100000
namespace Go.Proofs.Ytdpnjhooehadmaa.Pm
open Go Go.RowKit

theorem row_snoc {n : Int} {rs : List Rec} (h : Row n rs) {r : Rec} (hr : r.ok = true) (hn : r.num = n + rs.length) : Row n (rs ++ [r]) := by
  refine ⟨follows_of (fun q hq => ?_) (fun k hk => ?_), fun hk => ?_⟩
  · rcases List.mem_append.1 hq with hq | hq
    · exact follows_ok h.follows q hq
    · simp at hq; subst hq; exact hr
  · simp at hk
    by_cases h1 : k + 1 < rs.length
    · rw [List.getElem_append_left h1, List.getElem_append_left (by omega)]
      exact follows_row h.follows k h1
    · rw [List.getElem_append_right (by omega), List.getElem_append_left (by omega), follows_num h.follows k (by omega), h.first (by omega)]
      simp only [show k + 1 - rs.length = 0 by omega, List.getElem_cons_zero, hn]
      omega
  · cases rs with
    | nil => simpa using hn
    | cons q qs => exact h.first (by simp)
theorem catR_snoc (rs : List Rec) (r : Rec) : catR (rs ++ [r]) = catR rs ++ bytesL r := by simp [catR]
/-- A log of steps: valid, from a number on, with these records, of which so many are synced. -/
structure Lives (l0 l : WLog) (rs : List Rec) (safe : Nat) : Prop where
  ok : l.ok
  first : l.first = l0.first
  recs : l.recs = rs
  cap : l.dev.cap = l0.dev.cap
  safe : safe ≤ (scanL l.dev.syn).length
theorem Lives.next {l0 l : WLog} {rs : List Rec} {safe : Nat} (h : Lives l0 l rs safe) : l.next = l0.first + rs.length := by
  have := h.ok.2.2.2.1
  rw [h.recs, h.first] at this
  exact this
theorem Lives.row {l0 l : WLog} {rs : List Rec} {safe : Nat} (h : Lives l0 l rs safe) : Row l0.first rs := by
  have := row_ok h.ok
  rw [h.recs, h.first] at this
  exact this
theorem Lives.all {l0 l : WLog} {rs : List Rec} {safe : Nat} (h : Lives l0 l rs safe) : l.dev.all = catR rs := by
  have := all_eq h.ok
  rw [h.recs] at this
  exact this
theorem lives_app {l0 l : WLog} {rs : List Rec} {safe : Nat} (h : Lives l0 l rs safe) {d : List (BitVec 8)} (hd : d.length ≤ 1000) (hn : l0.first + rs.length ≤ 1000000000) (hc : ((catR rs).length + 12 + d.length : Int) ≤ l0.dev.cap) :
    l.app d = (⟨⟨l.dev.syn, l.dev.tail ++ bytesL ⟨l0.first + rs.length, d⟩, l.dev.cap, false⟩, l.first, l.next + 1⟩, l.next, 0) ∧
    Lives l0 ⟨⟨l.dev.syn, l.dev.tail ++ bytesL ⟨l0.first + rs.length, d⟩, l.dev.cap, false⟩, l.first, l.next + 1⟩ (rs ++ [⟨l0.first + rs.length, d⟩]) safe := by
  have hnx := h.next
  have hup := upE_of h.ok.1 h.ok.2.1
  have hall := h.all
  have hbl : (bytesL ⟨l0.first + rs.length, d⟩).length = 12 + d.length := bytesL_length _
  have hlen : (l.dev.syn.length : Int) + l.dev.tail.length + (bytesL ⟨l0.first + rs.length, d⟩).length ≤ l.dev.cap := by
    have := congrArg List.length hall
    rw [Dev.all, List.length_append] at this
    rw [h.cap, hbl]
    omega
  have e1 : l.dev.app (bytesL ⟨l0.first + rs.length, d⟩) = (⟨l.dev.syn, l.dev.tail ++ bytesL ⟨l0.first + rs.length, d⟩, l.dev.cap, false⟩, 0) := by
    simp only [Dev.app, orE, hup, if_true, if_pos hlen]
  have e2 : l.next ≤ 1000000000 := by omega
  have b0 := (ok_bounds h.ok).1
  rw [h.first] at b0
  have hrk : (Rec.mk (l0.first + rs.length) d).ok = true := (Rec.ok_iff _).2 ⟨by show 0 ≤ l0.first + (rs.length : Int); omega, by show l0.first + (rs.length : Int) ≤ _; omega, by show d.length ≤ _; omega⟩
  refine ⟨?_, ?_⟩
  · rw [← hnx] at e1 ⊢
    simp only [WLog.app, if_pos h.ok, if_pos hd, if_pos e2, e1, if_true]
  · have hck : (⟨l.dev.syn, l.dev.tail ++ bytesL ⟨l0.first + rs.length, d⟩, l.dev.cap, false⟩ : Dev).check = 0 := by
      have := app_check (d := l.dev) (b := bytesL ⟨l0.first + rs.length, d⟩) (by rw [e1])
      rw [e1] at this
      exact this
    have hk := ok_of_row (l := ⟨⟨l.dev.syn, l.dev.tail ++ bytesL ⟨l0.first + rs.length, d⟩, l.dev.cap, false⟩, l.first, l.next + 1⟩) (row_snoc h.row hrk rfl) hck rfl
      (by show l.dev.syn ++ (l.dev.tail ++ _) = _; rw [catR_snoc, ← hall, Dev.all, List.append_assoc]) h.first (by show l.next + 1 = _; rw [hnx, List.length_append]; simp; omega) b0 (by omega)
    exact ⟨hk.1, h.first, hk.2, h.cap, h.safe⟩
theorem lives_sync {l0 l : WLog} {rs : List Rec} {safe : Nat} (h : Lives l0 l rs safe) :
    l.sync = (⟨⟨catR rs, [], l.dev.cap, false⟩, l.first, l.next⟩, 0) ∧ Lives l0 ⟨⟨catR rs, [], l.dev.cap, false⟩, l.first, l.next⟩ rs rs.length := by
  have hup := upE_of h.ok.1 h.ok.2.1
  have hb := ok_bounds h.ok
  have e1 : l.dev.sync = (⟨catR rs, [], l.dev.cap, false⟩, 0) := by
    simp only [Dev.sync, orE, hup, if_true, h.all]
  refine ⟨?_, ?_⟩
  · simp only [WLog.sync, if_pos h.ok, e1]
  · have hck : (⟨catR rs, [], l.dev.cap, false⟩ : Dev).check = 0 := by
      have := sync_check (d := l.dev) (by rw [e1])
      rw [e1] at this
      exact this
    have hk := ok_of_row (l := ⟨⟨catR rs, [], l.dev.cap, false⟩, l.first, l.next⟩) h.row hck rfl (by show catR rs ++ [] = _; rw [List.append_nil]) h.first h.next (by rw [← h.first]; exact hb.1) (by rw [← h.first]; exact hb.2.1)
    exact ⟨hk.1, h.first, hk.2, h.cap, by show _ ≤ (scanL (catR rs)).length; rw [scan_whole h.row.follows]; exact Nat.le_refl _⟩
theorem lives_crash {l0 l : WLog} {rs : List Rec} {safe : Nat} (h : Lives l0 l rs safe) (h1 : l0.first ≤ 1000000000) {k : Nat} (hk : k ≤ l.dev.tail.length) :
    ∃ c, safe ≤ c ∧ c ≤ rs.length ∧ openW (l.crash k).1 l.first = (⟨⟨catR (rs.take c), [], l.dev.cap, false⟩, l.first, l.first + (c : Int)⟩, 0) ∧ Lives l0 ⟨⟨catR (rs.take c), [], l.dev.cap, false⟩, l.first, l.first + (c : Int)⟩ (rs.take c) c := by
  have ho := open_crash h.ok (by rw [h.first]; exact h1) hk
  obtain ⟨g1, g2⟩ := log_take h.ok (keepC l k)
  have h2 := keep_syn h.ok k
  have h3 := keep_le l k
  have hs := h.safe
  rw [h.recs] at ho g1 g2 h3
  generalize keepC l k = c at *
  have htl : (rs.take c).length = c := by rw [List.length_take]; omega
  have e : logOf l.dev.cap l.first (rs.take c) = ⟨⟨catR (rs.take c), [], l.dev.cap, false⟩, l.first, l.first + (c : Int)⟩ := by unfold logOf; rw [htl]
  rw [e] at ho g1 g2
  exact ⟨c, by omega, h3, ho, g1, h.first, g2, h.cap, by show _ ≤ (scanL (catR (rs.take c))).length; rw [scan_whole (row_take h.row c).follows, htl]; exact Nat.le_refl _⟩
end Go.Proofs.Ytdpnjhooehadmaa.Pm
