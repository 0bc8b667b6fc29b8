/- Texts of this proof in one file: PmWk, PmWq, PmWv. No law of Go's is stated here. -/
import Derived.Test.YtlfpafdkegnkoaaPmMj
set_option linter.all false
set_option maxRecDepth 100000
set_option maxHeartbeats 2000000
namespace Go.Proofs.Ytlfpafdkegnkoaa.Pm
open Go Go.RowKit
theorem ok_follows (l : WLog) : follows l.recs = true := scanL_follows l.dev.all
theorem syn_recs {l : WLog} (h : l.ok) : scanL l.dev.syn = l.recs.take (cntR l.recs l.dev.syn.length) := by
  have hall := all_eq h
  have hsyn : l.dev.syn = (catR l.recs).take l.dev.syn.length := by
    rw [← hall, Dev.all, List.take_left]
  have hle : l.dev.syn.length ≤ (catR l.recs).length := by rw [← hall, Dev.all, List.length_append]; omega
  have := scan_pre (ok_follows l) hle
  rw [← hsyn] at this
  exact this
theorem syn_len {l : WLog} (h : l.ok) : (scanL l.dev.syn).length = cntR l.recs l.dev.syn.length := by
  rw [syn_recs h, List.length_take, Nat.min_eq_left (cntR_le _ _)]
theorem syn_fit {l : WLog} (h : l.ok) {m : Nat} (hm : m ≤ (scanL l.dev.syn).length) : (catR (l.recs.take m)).length ≤ l.dev.syn.length := by
  rw [syn_len h] at hm
  have := catR_mono l.recs hm
  have := cntR_in l.recs l.dev.syn.length
  omega
def WLog.sync (l : WLog) : WLog × Int := if l.ok then (⟨(l.dev.sync).1, l.first, l.next⟩, 0) else (zeroW, 8)
def WLog.drop (l : WLog) (n : Int) : WLog × Int := if l.ok then (if l.first ≤ n ∧ n ≤ l.next then (if n ≤ l.first + (scanL l.dev.syn).length then
  (⟨(l.dev.drop (catR (l.recs.take (n - l.first).toNat)).length).1, n, l.next⟩, 0) else (zeroW, 32)) else (zeroW, 2)) else (zeroW, 8)
theorem sync_e {l : WLog} (h : l.ok) : (l.dev.sync).2 = 0 := by
  have hup := upE_of h.1 h.2.1
  simp [Dev.sync, orE, hup]
theorem drop_e {l : WLog} (h : l.ok) {k : Nat} (hk : k ≤ l.dev.syn.length) : (l.dev.drop k).2 = 0 := by
  have hup := upE_of h.1 h.2.1
  simp [Dev.drop, orE, hup, hk]
theorem s_wal_Sync (l : WLog) (hl : l.fine) : Spec Try.prog 28 [.agg l.cells] [] (resV ((opW l.sync).map AV.ofT)) := by
  refine spec_k (hold mixed) b_wal_Sync (opW l.sync) ?_
  by_cases h : l.ok
  · have ev : l.sync = (⟨(l.dev.sync).1, l.first, l.next⟩, 0) := if_pos h
    have he := sync_e h
    rw [ev]
    simp -implicitDefEqProofs only [go_sem, seval, sk]
    refine call_k (s_wal_look_ok l hl h) ?_
    simp -implicitDefEqProofs only [go_sem, seval, sk, viewV]
    refine call_k (s_disk_Sync l.dev hl.1) ?_
    generalize l.dev.sync = p at he
    simp -implicitDefEqProofs only [go_sem, seval, sk, opR, he]
    first | refine call_xd x_wal_with ?_ | refine call_x x_wal_with ?_
    simp -implicitDefEqProofs only [go_sem, seval, sk, opW, he]
  · have ev : l.sync = (zeroW, 8) := if_neg h
    rw [ev]
    simp -implicitDefEqProofs only [go_sem, seval, sk]
    refine call_k (s_wal_look_bad l hl h) ?_
    simp -implicitDefEqProofs only [go_sem, seval, sk, zeroV, opW, zeroW_cells]
theorem s_wal_Drop (l : WLog) (hl : l.fine) (n : Int) (n0 : -9223372036854775808 ≤ n) (n1 : n ≤ 9223372036854775807) : Spec Try.prog 32 [.agg l.cells, .i .i64 n] [] (resV ((opW (l.drop n)).map AV.ofT)) := by
  refine spec_k (hold mixed) b_wal_Drop (opW (l.drop n)) ?_
  by_cases h : l.ok
  · obtain ⟨b0, b1, b2⟩ := ok_bounds h
    have hnx := h.2.2.2.1
    simp -implicitDefEqProofs only [go_sem, seval, sk]
    refine call_k (s_wal_look_ok l hl h) ?_
    by_cases c0 : n < l.first
    · have ev : l.drop n = (zeroW, 2) := by
        have : ¬ (l.first ≤ n ∧ n ≤ l.next) := by omega
        simp only [WLog.drop, if_pos h, if_neg this]
      rw [ev]
      simp -implicitDefEqProofs only [go_sem, seval, sk, viewV, c0, opW, zeroW_cells]
    by_cases c1 : l.next < n
    · have ev : l.drop n = (zeroW, 2) := by
        have : ¬ (l.first ≤ n ∧ n ≤ l.next) := by omega
        simp only [WLog.drop, if_pos h, if_neg this]
      rw [ev]
      simp -implicitDefEqProofs only [go_sem, seval, sk, viewV, c0, c1, opW, zeroW_cells]
    simp -implicitDefEqProofs only [go_sem, seval, sk, viewV, c0, c1]
    refine call_k (s_wal_view_synced l h) ?_ (by simp -implicitDefEqProofs only [go_sem, seval, viewC])
    rw [syncV_eq h]
    by_cases c2 : l.first + ((scanL l.dev.syn).length : Int) < n
    · have ev : l.drop n = (zeroW, 32) := by
        have e1 : (l.first ≤ n ∧ n ≤ l.next) := by omega
        have e2 : ¬ n ≤ l.first + ((scanL l.dev.syn).length : Int) := by omega
        simp only [WLog.drop, if_pos h, if_pos e1, if_neg e2]
      rw [ev]
      simp -implicitDefEqProofs only [go_sem, seval, sk, c2, opW, zeroW_cells]
    obtain ⟨m, hm⟩ : ∃ m : Nat, n = l.first + m := ⟨(n - l.first).toNat, by omega⟩
    have ev : l.drop n = (⟨(l.dev.drop (catR (l.recs.take m)).length).1, n, l.next⟩, 0) := by
      have e1 : (l.first ≤ n ∧ n ≤ l.next) := by omega
      have e2 : n ≤ l.first + ((scanL l.dev.syn).length : Int) := by omega
      have e3 : (n - l.first).toNat = m := by omega
      simp only [WLog.drop, if_pos h, if_pos e1, if_pos e2, e3]
    have hfit := syn_fit h (m := m) (by omega)
    have he := drop_e h hfit
    rw [ev]
    subst hm
    have hcb : (catR (l.recs.take m)).length ≤ 100000 := by have := hl.1.1; omega
    simp -implicitDefEqProofs only [go_sem, seval, sk, c2]
    first | refine call_d (s_wal_view_size l h m (by omega)) ?_ (by simp -implicitDefEqProofs only [go_sem, seval, viewC]) | refine call_k (s_wal_view_size l h m (by omega)) ?_ (by simp -implicitDefEqProofs only [go_sem, seval, viewC])
    simp -implicitDefEqProofs only [go_sem, seval, sk]
    first | refine call_d (s_disk_Drop l.dev (((catR (l.recs.take m)).length : Nat) : Int) hl.1 (by omega) (by omega)) ?_ | refine call_k (s_disk_Drop l.dev (((catR (l.recs.take m)).length : Nat) : Int) hl.1 (by omega) (by omega)) ?_
    generalize l.dev.drop (((catR (l.recs.take m)).length : Nat) : Int) = p at he
    simp -implicitDefEqProofs only [go_sem, seval, sk, opR, he]
    first | refine call_xd x_wal_with ?_ | refine call_x x_wal_with ?_
    simp -implicitDefEqProofs only [go_sem, seval, sk, opW, he]
  · have ev : l.drop n = (zeroW, 8) := if_neg h
    rw [ev]
    simp -implicitDefEqProofs only [go_sem, seval, sk]
    refine call_k (s_wal_look_bad l hl h) ?_
    simp -implicitDefEqProofs only [go_sem, seval, sk, zeroV, opW, zeroW_cells]
def logOf (cap n : Int) (rs : List Rec) : WLog := ⟨⟨catR rs, [], cap, false⟩, n, n + rs.length⟩
structure Row (n : Int) (rs : List Rec) : Prop where
  follows : follows rs = true
  first : ∀ h : 0 < rs.length, rs[0].num = n
theorem row_take {n : Int} {rs : List Rec} (h : Row n rs) (k : Nat) : Row n (rs.take k) :=
  ⟨follows_take h.follows k, fun hk => by rw [List.getElem_take]; exact h.first (by rw [List.length_take] at hk; omega)⟩
theorem row_ok {l : WLog} (h : l.ok) : Row l.first l.recs := ⟨ok_follows l, fun hk => head_num h.2.2.2.2 hk⟩
theorem ok_of_row {l : WLog} {n : Int} {rs : List Rec} (h : Row n rs) (hc : l.dev.check = 0) (hd : l.dev.down = false) (ha : l.dev.all = catR rs) (hf : l.first = n) (hn : l.next = n + rs.length) (h0 : 0 ≤ n) (h1 : n ≤ 1000000001) : l.ok ∧ l.recs = rs := by
  have hr : l.recs = rs := by unfold WLog.recs; rw [ha]; exact scan_whole h.follows
  refine ⟨⟨hc, hd, by rw [hr, ha], by rw [hr, hn, hf], ?_⟩, hr⟩
  rw [hr]
  cases rs with
  | nil => exact ⟨by omega, by omega⟩
  | cons r rs => exact (h.first (by simp)).trans hf.symm
theorem log_ok {cap n : Int} {rs : List Rec} (h : Row n rs) (c0 : 0 ≤ cap) (c1 : cap ≤ 20000) (hl : ((catR rs).length : Int) ≤ cap) (h0 : 0 ≤ n) (h1 : n ≤ 1000000001) : (logOf cap n rs).ok ∧ (logOf cap n rs).recs = rs :=
  ok_of_row h (check_of c0 c1 (by show ((catR rs).length : Int) + (([] : List (BitVec 8)).length : Nat) ≤ cap; simp; omega) (fun h => by cases h)) rfl (by show catR rs ++ [] = _; rw [List.append_nil]) rfl rfl h0 h1
theorem open_of {d : Dev} {n : Int} {rs : List Rec} (hc : d.check = 0) (h0 : 0 ≤ n) (h1 : n ≤ 1000000000) (hs : scanL d.all = rs) (hr : Row n rs) : openW d n = (logOf d.cap n rs, 0) := by
  cases rs with
  | nil =>
    rw [openW_none hc h0 h1 hs]
    simp [logOf, cutD, catR]
  | cons r rs =>
    have hlast : ((r :: rs).getLast (List.cons_ne_nil r rs)).num = n + rs.length := by
      rw [List.getLast_eq_getElem, follows_num hr.follows _ (by simp), hr.first (by simp)]
      simp
    have hu := scan_used d.all
    rw [hs] at hu
    have hf : r.num = n := hr.first (by simp)
    rw [openW_some hc h0 h1 hs (by omega), hlast, hf]
    simp only [logOf, cutD, hu, List.length_cons]
    rw [show n + (rs.length : Int) + 1 = n + ((rs.length + 1 : Nat) : Int) by omega]
def keepC (l : WLog) (k : Nat) : Nat := cntR l.recs (l.dev.syn.length + k)
theorem crash_eq {l : WLog} (h : l.ok) {k : Nat} (hk : k ≤ l.dev.tail.length) : l.crash k = (⟨l.dev.syn ++ l.dev.tail.take k, [], l.dev.cap, true⟩, 0) := by
  have hup := upE_of h.1 h.2.1
  have : l.crash k = l.dev.crash k := if_pos h
  rw [this]
  simp [Dev.crash, orE, hup, hk]
theorem crash_scan {l : WLog} (h : l.ok) {k : Nat} (hk : k ≤ l.dev.tail.length) : scanL ((l.crash k).1.all) = l.recs.take (keepC l k) := by
  rw [crash_eq h hk]
  have hall := all_eq h
  have e : (⟨l.dev.syn ++ l.dev.tail.take k, [], l.dev.cap, true⟩ : Dev).all = (catR l.recs).take (l.dev.syn.length + k) := by
    rw [← hall]
    simp only [Dev.all, List.append_nil]
    rw [List.take_length_add_append]
  rw [e]
  have hle : l.dev.syn.length + k ≤ (catR l.recs).length := by rw [← hall, Dev.all, List.length_append]; omega
  exact scan_pre (ok_follows l) hle
theorem crash_ck {l : WLog} (h : l.ok) {k : Nat} (hk : k ≤ l.dev.tail.length) : (l.crash k).1.check = 0 := by
  have e : l.crash k = l.dev.crash k := if_pos h
  have h2 : (l.dev.crash k).2 = 0 := by rw [← e, crash_eq h hk]
  rw [e]
  exact crash_check h2
theorem open_crash {l : WLog} (h : l.ok) (h1 : l.first ≤ 1000000000) {k : Nat} (hk : k ≤ l.dev.tail.length) : openW (l.crash k).1 l.first = (logOf l.dev.cap l.first (l.recs.take (keepC l k)), 0) := by
  have := open_of (crash_ck h hk) (ok_bounds h).1 h1 (crash_scan h hk) (row_take (row_ok h) _)
  rw [crash_eq h hk] at this ⊢
  exact this
theorem keep_le (l : WLog) (k : Nat) : keepC l k ≤ l.recs.length := cntR_le _ _
theorem cap_ok {l : WLog} (h : l.ok) : 0 ≤ l.dev.cap ∧ l.dev.cap ≤ 20000 ∧ ((catR l.recs).length : Int) ≤ l.dev.cap := by
  obtain ⟨k1, k2, k3⟩ := l.dev.ok_of h.1
  have hall := all_eq h
  refine ⟨k1, k2, ?_⟩
  rw [← hall, Dev.all, List.length_append]
  omega
theorem log_take {l : WLog} (h : l.ok) (c : Nat) : (logOf l.dev.cap l.first (l.recs.take c)).ok ∧ (logOf l.dev.cap l.first (l.recs.take c)).recs = l.recs.take c := by
  obtain ⟨k1, k2, k3⟩ := cap_ok h
  have := catR_mono l.recs (Nat.le_max_left c l.recs.length)
  have h2 := catR_le l.recs c
  exact log_ok (row_take (row_ok h) c) k1 k2 (by omega) (ok_bounds h).1 (ok_bounds h).2.1
theorem log_records {l : WLog} (hok : l.ok) : recR l l.first = (l.recs, 0) := by
  have hnx := hok.2.2.2.1
  have e1 : l.first ≤ l.first ∧ l.first ≤ l.next := by omega
  have e2 : (l.first - l.first).toNat = 0 := by omega
  simp only [recR, if_pos hok, if_pos e1, e2, List.drop_zero]
theorem log_fine {l : WLog} (hok : l.ok) : l.fine := by
  obtain ⟨k1, k2, k3⟩ := l.dev.ok_of hok.1
  obtain ⟨b0, b1, b2⟩ := ok_bounds hok
  have hnx := hok.2.2.2.1
  exact ⟨⟨by omega, by omega⟩, by omega, by omega, by omega, by omega⟩
theorem drop_dev {l : WLog} (h : l.ok) {j : Nat} (hj : j ≤ (scanL l.dev.syn).length) :
    l.dev.drop (((catR (l.recs.take j)).length : Nat) : Int) = (⟨l.dev.syn.drop (catR (l.recs.take j)).length, l.dev.tail, l.dev.cap, false⟩, 0) := by
  have hup := upE_of h.1 h.2.1
  have hfit := syn_fit h hj
  simp [Dev.drop, orE, hup, hfit]
def WLog.cutW (l : WLog) (j : Nat) : WLog := ⟨(l.dev.drop (((catR (l.recs.take j)).length : Nat) : Int)).1, l.first + j, l.next⟩
theorem syn_recs_le {l : WLog} (h : l.ok) : (scanL l.dev.syn).length ≤ l.recs.length := by rw [syn_len h]; exact cntR_le _ _
theorem drop_eq {l : WLog} (h : l.ok) {j : Nat} (hj : j ≤ (scanL l.dev.syn).length) : l.drop (l.first + j) = (l.cutW j, 0) := by
  have hnx := h.2.2.2.1
  have hsr := syn_recs_le h
  have e1 : (l.first ≤ l.first + (j : Int) ∧ l.first + (j : Int) ≤ l.next) := by omega
  have e2 : l.first + (j : Int) ≤ l.first + ((scanL l.dev.syn).length : Int) := by omega
  have e3 : (l.first + (j : Int) - l.first).toNat = j := by omega
  simp only [WLog.drop, if_pos h, if_pos e1, if_pos e2, e3, WLog.cutW]
theorem row_snoc {n : Int} {rs : List Rec} (h : Row n rs) {r : Rec} (hr : r.ok = true) (hn : r.num = n + rs.length) : Row n (rs ++ [r]) := by
  refine ⟨follows_of (fun q hq => ?_) (fun k hk => ?_), fun hk => ?_⟩
  · rcases List.mem_append.1 hq with hq | hq
    · exact follows_ok h.follows q hq
    · simp at hq; subst hq; exact hr
  · simp at hk
    by_cases h1 : k + 1 < rs.length
    · rw [List.getElem_append_left h1, List.getElem_append_left (by omega)]
      exact follows_row h.follows k h1
    · rw [List.getElem_append_right (by omega), List.getElem_append_left (by omega), follows_num h.follows k (by omega), h.first (by omega)]
      simp only [show k + 1 - rs.length = 0 by omega, List.getElem_cons_zero, hn]
      omega
  · cases rs with
    | nil => simpa using hn
    | cons q qs => exact h.first (by simp)
theorem catR_snoc (rs : List Rec) (r : Rec) : catR (rs ++ [r]) = catR rs ++ bytesL r := by simp [catR]
structure Lives (l0 l : WLog) (rs : List Rec) (safe : Nat) : Prop where
  ok : l.ok
  first : l.first = l0.first
  recs : l.recs = rs
  cap : l.dev.cap = l0.dev.cap
  safe : safe ≤ (scanL l.dev.syn).length
theorem Lives.next {l0 l : WLog} {rs : List Rec} {safe : Nat} (h : Lives l0 l rs safe) : l.next = l0.first + rs.length := by
  have := h.ok.2.2.2.1
  rw [h.recs, h.first] at this
  exact this
theorem Lives.row {l0 l : WLog} {rs : List Rec} {safe : Nat} (h : Lives l0 l rs safe) : Row l0.first rs := by
  have := row_ok h.ok
  rw [h.recs, h.first] at this
  exact this
theorem Lives.all {l0 l : WLog} {rs : List Rec} {safe : Nat} (h : Lives l0 l rs safe) : l.dev.all = catR rs := by
  have := all_eq h.ok
  rw [h.recs] at this
  exact this
theorem lives_app {l0 l : WLog} {rs : List Rec} {safe : Nat} (h : Lives l0 l rs safe) {d : List (BitVec 8)} (hd : d.length ≤ 1000) (hn : l0.first + rs.length ≤ 1000000000) (hc : ((catR rs).length + 12 + d.length : Int) ≤ l0.dev.cap) :
    l.app d = (⟨⟨l.dev.syn, l.dev.tail ++ bytesL ⟨l0.first + rs.length, d⟩, l.dev.cap, false⟩, l.first, l.next + 1⟩, l.next, 0) ∧
    Lives l0 ⟨⟨l.dev.syn, l.dev.tail ++ bytesL ⟨l0.first + rs.length, d⟩, l.dev.cap, false⟩, l.first, l.next + 1⟩ (rs ++ [⟨l0.first + rs.length, d⟩]) safe := by
  have hnx := h.next
  have hup := upE_of h.ok.1 h.ok.2.1
  have hall := h.all
  have hbl : (bytesL ⟨l0.first + rs.length, d⟩).length = 12 + d.length := bytesL_length _
  have hlen : (l.dev.syn.length : Int) + l.dev.tail.length + (bytesL ⟨l0.first + rs.length, d⟩).length ≤ l.dev.cap := by
    have := congrArg List.length hall
    rw [Dev.all, List.length_append] at this
    rw [h.cap, hbl]
    omega
  have e1 : l.dev.app (bytesL ⟨l0.first + rs.length, d⟩) = (⟨l.dev.syn, l.dev.tail ++ bytesL ⟨l0.first + rs.length, d⟩, l.dev.cap, false⟩, 0) := by
    simp only [Dev.app, orE, hup, if_true, if_pos hlen]
  have e2 : l.next ≤ 1000000000 := by omega
  have b0 := (ok_bounds h.ok).1
  rw [h.first] at b0
  have hrk : (Rec.mk (l0.first + rs.length) d).ok = true := (Rec.ok_iff _).2 ⟨by show 0 ≤ l0.first + (rs.length : Int); omega, by show l0.first + (rs.length : Int) ≤ _; omega, by show d.length ≤ _; omega⟩
  refine ⟨?_, ?_⟩
  · rw [← hnx] at e1 ⊢
    simp only [WLog.app, if_pos h.ok, if_pos hd, if_pos e2, e1, if_true]
  · have hck : (⟨l.dev.syn, l.dev.tail ++ bytesL ⟨l0.first + rs.length, d⟩, l.dev.cap, false⟩ : Dev).check = 0 := by
      have := app_check (d := l.dev) (b := bytesL ⟨l0.first + rs.length, d⟩) (by rw [e1])
      rw [e1] at this
      exact this
    have hk := ok_of_row (l := ⟨⟨l.dev.syn, l.dev.tail ++ bytesL ⟨l0.first + rs.length, d⟩, l.dev.cap, false⟩, l.first, l.next + 1⟩) (row_snoc h.row hrk rfl) hck rfl
      (by show l.dev.syn ++ (l.dev.tail ++ _) = _; rw [catR_snoc, ← hall, Dev.all, List.append_assoc]) h.first (by show l.next + 1 = _; rw [hnx, List.length_append]; simp; omega) b0 (by omega)
    exact ⟨hk.1, h.first, hk.2, h.cap, h.safe⟩
theorem lives_sync {l0 l : WLog} {rs : List Rec} {safe : Nat} (h : Lives l0 l rs safe) :
    l.sync = (⟨⟨catR rs, [], l.dev.cap, false⟩, l.first, l.next⟩, 0) ∧ Lives l0 ⟨⟨catR rs, [], l.dev.cap, false⟩, l.first, l.next⟩ rs rs.length := by
  have hup := upE_of h.ok.1 h.ok.2.1
  have hb := ok_bounds h.ok
  have e1 : l.dev.sync = (⟨catR rs, [], l.dev.cap, false⟩, 0) := by
    simp only [Dev.sync, orE, hup, if_true, h.all]
  refine ⟨?_, ?_⟩
  · simp only [WLog.sync, if_pos h.ok, e1]
  · have hck : (⟨catR rs, [], l.dev.cap, false⟩ : Dev).check = 0 := by
      have := sync_check (d := l.dev) (by rw [e1])
      rw [e1] at this
      exact this
    have hk := ok_of_row (l := ⟨⟨catR rs, [], l.dev.cap, false⟩, l.first, l.next⟩) h.row hck rfl (by show catR rs ++ [] = _; rw [List.append_nil]) h.first h.next (by rw [← h.first]; exact hb.1) (by rw [← h.first]; exact hb.2.1)
    exact ⟨hk.1, h.first, hk.2, h.cap, by show _ ≤ (scanL (catR rs)).length; rw [scan_whole h.row.follows]; exact Nat.le_refl _⟩
end Go.Proofs.Ytlfpafdkegnkoaa.Pm
