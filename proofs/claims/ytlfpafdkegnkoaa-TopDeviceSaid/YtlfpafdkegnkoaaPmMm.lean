/- Texts of this proof in one file: PmEg, PmEh, PmEi, PmEj, PmEk, PmEl, PmEm. No law of Go's is stated here. -/
import Derived.Test.YtlfpafdkegnkoaaPmMl
import Derived.Test.YtlfpafdkegnkoaaPmMi
import Derived.Test.YtlfpafdkegnkoaaPmMk
import Derived.Test.YtlfpafdkegnkoaaPmMc
set_option linter.all false
set_option maxRecDepth 100000
set_option maxHeartbeats 2000000
namespace Go.Proofs.Ytlfpafdkegnkoaa.Pm
open Go Go.RowKit
def mvOf (b : List (BitVec 8)) : Int × Int := ((((b[0]?).getD 0#8).toNat : Nat), rd8 (b.drop 1))
def redo : List Int → List Rec → List Int × Bool
  | c, [] => (c, true)
  | c, r :: rs => if r.data.length = 9 then (if (applyV c [mvOf r.data]).2 = 0 then redo (applyV c [mvOf r.data]).1 rs else (c, false)) else (c, false)
theorem redo_len : ∀ (rs : List Rec) (c : List Int), c.length = 8 → (redo c rs).1.length = 8
  | [], c, h => h
  | r :: rs, c, h => by
    unfold redo
    split
    · split
      · exact redo_len rs _ (applyV_len _ h)
      · exact h
    · exact h
theorem redo_go {rs : List Rec} {k : Nat} (h : k < rs.length) (c : List Int) (h1 : rs[k].data.length = 9) (h2 : (applyV c [mvOf rs[k].data]).2 = 0) : redo c (rs.drop k) = redo (applyV c [mvOf rs[k].data]).1 (rs.drop (k + 1)) := by
  rw [List.drop_eq_getElem_cons h, redo, if_pos h1, if_pos h2]
theorem redo_no {rs : List Rec} {k : Nat} (h : k < rs.length) (c : List Int) (h1 : ¬ (rs[k].data.length = 9 ∧ (applyV c [mvOf rs[k].data]).2 = 0)) : redo c (rs.drop k) = (c, false) := by
  rw [List.drop_eq_getElem_cons h, redo]
  split
  · rename_i h2
    rw [if_neg fun h3 => h1 ⟨h2, h3⟩]
  · rfl
theorem redo_end {rs : List Rec} {k : Nat} (h : ¬ k < rs.length) (c : List Int) : redo c (rs.drop k) = (c, true) := by
  rw [List.drop_of_length_le (by omega)]
  rfl
def replayV (c : List Int) (l : WLog) (n : Int) : List Int × Bool := if l.first ≤ n ∧ n ≤ l.next then redo c (l.recs.drop (n - l.first).toNat) else (c, false)
theorem replayV_len {c : List Int} (h : c.length = 8) (l : WLog) (n : Int) : (replayV c l n).1.length = 8 := by
  unfold replayV
  split
  · exact redo_len _ _ h
  · exact h
def opC (p : List Int × Bool) : List (T × Bool) := [(.agg (clT p.1), true), (.b p.2, true)]
attribute [go_sem] opC
theorem id1s_clF (l : Bool) (ws : List Int) : id1s (clF l ws) = [] := by
  induction ws with
  | nil => rfl
  | cons x ws ih => show id1s (.t (.i .i64 x) l :: clF l ws) = []; simp only [id1s, AV.id1, ih]; rfl
attribute [go_sem] id1s_clF
def jrF (c0 : List Int) (l : WLog) (rs : List Rec) (p : Nat × List Int × Bool) : S := ⟨tmL [(3, .ptr 0 0), (6, .ptr 2 0), (34, .t (.sl (recsT rs)) true), (35, .t (.i .i64 rs.length) true), (36, .t (.i .i64 p.1) true)], [.var (clF p.2.2 p.2.1), .var (l.cells.map fun x => .t x false), .var (clF true z8)]⟩
theorem s_journal_replay (c : List Int) (h8 : c.length = 8) (l : WLog) (hl : l.fine) (h : l.ok) (n : Int) (n0 : -9223372036854775808 ≤ n) (n1 : n ≤ 9223372036854775807) : Spec Try.prog 57 [.agg (clT c), .agg l.cells, .i .i64 n] [] (resV ((opC (replayV c l n)).map AV.ofT)) := by
  refine spec_k (hold mixed) b_journal_replay (opC (replayV c l n)) ?_
  have hR := s_wal_Records l hl n n0 n1
  simp -implicitDefEqProofs only [go_sem, seval, sk, clF_map]
  by_cases c1 : n < l.first
  · have e : replayV c l n = (c, false) := if_neg (by omega)
    rw [e]
    simp -implicitDefEqProofs only [go_sem, seval, sk, eq_true c1, clF_take h8, h8]
    exact clF_one _ _
  · by_cases c2 : l.next < n
    · have e : replayV c l n = (c, false) := if_neg (by omega)
      rw [e]
      simp -implicitDefEqProofs only [go_sem, seval, sk, eq_false c1, eq_true c2, clF_take h8, h8]
      exact clF_one _ _
    · have e : replayV c l n = redo c (l.recs.drop (n - l.first).toNat) := if_pos (by omega)
      have er : recR l n = (l.recs.drop (n - l.first).toNat, 0) := by
        simp only [recR, if_pos h]
        rw [if_pos (by omega)]
      rw [e]
      rw [er] at hR
      have hrl : (l.recs.drop (n - l.first).toNat).length ≤ 20000 := by
        have := (ok_bounds h).2.2
        rw [List.length_drop]
        omega
      have hrd : ∀ r ∈ l.recs.drop (n - l.first).toNat, r.data.length ≤ 1000 := fun r hr =>
        (r.ok_iff.1 (follows_ok (ok_follows l) r (List.mem_of_mem_drop hr))).2.2
      generalize l.recs.drop (n - l.first).toNat = rs at *
      simp -implicitDefEqProofs only [go_sem, seval, sk, eq_false c1, eq_false c2]
      first | refine call_k hR ?_ | refine call_d hR ?_
      simp -implicitDefEqProofs only [go_sem, seval, sk, recT, recsT_length]
      have e := redo_len rs c h8
      refine loop_l (α := Nat × List Int × Bool) (jrF c l rs) (fun p => rs.length - p.1) (fun p => p.1 ≤ rs.length ∧ p.2.1.length = 8 ∧ redo c rs = redo p.2.1 (rs.drop p.1)) (0, c, false) (by simp -implicitDefEqProofs only [go_sem, seval, jrF]; rfl) ⟨Nat.zero_le _, h8, rfl⟩ ?_
      intro p hp R hR
      obtain ⟨k, d, fl⟩ := p
      obtain ⟨hk, hd8, hre⟩ := hp
      simp only at hk hd8 hre
      rw [hre]
      simp -implicitDefEqProofs only [go_sem, seval, sk, jrF]
      refine wcond_mk (fun hh => ?_) (fun hh => ?_)
      · have hk' : k < rs.length := by have := of_decide_eq_true hh; omega
        have hkk : ((k : Int) < (rs.length : Int)) = True := eq_true (by omega)
        have hdl := hrd _ (List.getElem_mem hk')
        have e1 : IntKind.i64.wrap ((k : Int) + 1) = ((k + 1 : Nat) : Int) := by rw [wrap_i64_id (by omega) (by omega)]; omega
        have ht := clF_take (l := fl) hd8
        simp -implicitDefEqProofs only [go_sem, seval, sk, recsT_get hk', hkk, Rec.cells]
        by_cases h9 : rs[k].data.length = 9
        · have e9 : ((rs[k].data.length : Int) != 9) = false := by simp; omega
          have hA := s_journal_Apply d hd8 [mvOf rs[k].data] (by simp)
          have hal := applyV_len [mvOf rs[k].data] hd8
          have hgo := redo_go hk' d h9
          have hno := redo_no hk' d
          generalize rs[k].num = num at *
          generalize rs[k].data = b at *
          have hG := s_journal_get (b.drop 1) 0 (by omega) (by rw [List.length_drop]; omega)
          rw [Nat.mul_zero, List.drop_zero, Int.natCast_zero] at hG
          have hg : b[0]? = some b[0] := List.getElem?_eq_getElem (by omega)
          have hm1 : (mvOf b).1 = ((b[0].toNat : Nat) : Int) := by simp only [mvOf, hg, Option.getD_some]
          have hm2 : (mvOf b).2 = rd8 (b.drop 1) := rfl
          have hsl : List.take ((b.length : Int) - 1).toNat (List.drop 1 (bT b)) = bT (List.drop 1 b) := by
            rw [List.take_of_length_le (by rw [List.length_drop, bT_length]; omega)]
            simp [bT, List.map_drop]
          have e0 : ((0 : Int) < (b.length : Int)) = True := eq_true (by omega)
          have e1' : ((1 : Int) ≤ (b.length : Int)) = True := eq_true (by omega)
          have ew : IntKind.i64.wrap ((b[0].toNat : Nat) : Int) = ((b[0].toNat : Nat) : Int) := by have := b[0].isLt; exact wrap_i64_id (by omega) (by omega)
          simp -implicitDefEqProofs only [go_sem, seval, sk, e9, bT_get (show 0 < b.length by omega), e0, e1', hsl, hd8, ht]
          refine ⟨okEs_bT _, ?_⟩
          first | refine call_k hG ?_ | refine call_d hG ?_
          rw [show mvT [mvOf b] = [[.i .i64 ((b[0].toNat : Nat) : Int), .i .i64 (rd8 (b.drop 1))]] by simp [mvT, mT, hm1, hm2]] at hA
          simp -implicitDefEqProofs only [go_sem, seval, sk, ew]
          first | refine call_k hA ?_ (by simp -implicitDefEqProofs only [go_sem, seval, sk, ht]) | refine call_d hA ?_ (by simp -implicitDefEqProofs only [go_sem, seval, sk, ht])
          simp -implicitDefEqProofs only [go_sem, seval, sk]
          by_cases hz : (applyV d [mvOf b]).2 = 0
          · have ez : ((applyV d [mvOf b]).2 != 0) = false := by simp [hz]
            rw [hgo hz]
            generalize (applyV d [mvOf b]).1 = d2 at *
            have ht2 := clF_take (l := true) hal
            have hd2 := clF_drop (l := fl) hd8
            simp -implicitDefEqProofs only [go_sem, seval, sk, clF_map, hal, ez, ht2, hd2, List.append_nil, e1]
            refine ⟨clF_one _ _, ⟨clF_one _ _, by omega⟩, hR (k + 1, d2, true) _ ?_ ⟨by simp only; omega, hal, by rw [hre, hgo hz]⟩ (by simp only; omega)⟩
            simp -implicitDefEqProofs only [go_sem, seval, jrF]
          · have ez : ((applyV d [mvOf b]).2 != 0) = true := by simp [hz]
            rw [hno fun h => hz h.2]
            simp -implicitDefEqProofs only [go_sem, seval, sk, clF_map, hal, ez, hd8, ht, z8L, z8D, List.append_nil]
            exact ⟨clF_one _ _, clF_one _ _⟩
        · have e9 : ((rs[k].data.length : Int) != 9) = true := by simp; omega
          rw [redo_no hk' d fun h => h9 h.1]
          simp -implicitDefEqProofs only [go_sem, seval, sk, e9, hd8, ht, z8L, z8D, List.append_nil]
          exact clF_one _ _
      · have hk' : ¬ k < rs.length := by have := of_decide_eq_false hh; omega
        rw [redo_end hk']
        simp -implicitDefEqProofs only [go_sem, seval, sk, hd8, clF_take hd8, z8L, z8D, List.append_nil]
        exact clF_one _ _
def Jr.fine (j : Jr) : Prop := j.s.fine ∧ j.l.fine ∧ j.c.length = 8 ∧ ∀ c ∈ j.c, -9223372036854775808 ≤ c ∧ c ≤ 9223372036854775807
def Jr.ok (j : Jr) : Prop := j.s.ok ∧ j.l.ok ∧ (baseV j.s).2.2 = true ∧ j.s.next = nextO j.s ∧ j.l.first ≤ (baseV j.s).1 ∧ (baseV j.s).1 ≤ j.l.next ∧
  redo (baseV j.s).2.1 (j.l.recs.drop ((baseV j.s).1 - j.l.first).toNat) = (j.c, true)
instance decJrOk (j : Jr) : Decidable j.ok := by unfold Jr.ok; infer_instance
def Jr.chk (j : Jr) : Int := if j.ok then 0 else 8
theorem chkJ_ok {j : Jr} (h : j.ok) : j.chk = 0 := if_pos h
theorem chkJ_bad {j : Jr} (h : ¬ j.ok) : j.chk = 8 := if_neg h
theorem baseB_in (b : List (BitVec 8)) (h : (baseB b).2.2 = true) : 0 ≤ (baseB b).1 ∧ (baseB b).1 ≤ 1000000000 ∧ stOK (baseB b).2.1 = true := by
  unfold baseB at h ⊢
  split at h
  · rename_i h72
    rw [if_pos h72]
    simp only [Bool.and_eq_true, decide_eq_true_eq] at h
    exact h
  · cases h
theorem baseV_in {s : Slt} (h : (baseV s).2.2 = true) : 0 ≤ (baseV s).1 ∧ (baseV s).1 ≤ 1000000000 ∧ stOK (baseV s).2.1 = true := by
  unfold baseV at h ⊢
  split
  · exact ⟨by decide, by decide, by decide⟩
  · rename_i r hr
    rw [hr] at h
    exact baseB_in _ h
theorem eqCells_clT : ∀ {a b : List Int} (_ : a.length = b.length), eqCells (clT a) (clT b) = some (decide (a = b))
  | [], [], _ => rfl
  | x :: a, y :: b, h => by
    have ih := eqCells_clT (a := a) (b := b) (by simpa using h)
    show eqCells (.i .i64 x :: clT a) (.i .i64 y :: clT b) = _
    simp only [eqCells, ih]
    by_cases hx : x = y
    · by_cases ha : a = b
      · simp [hx, ha]
      · simp [hx, ha]
    · simp [hx]
theorem s_journal_Check (j : Jr) (hj : j.fine) : Spec Try.prog 23 [.agg j.cells] [] (.t (.i .i64 j.chk) true) := by
  refine spec_k (hold mixed) b_journal_Check [(.i .i64 j.chk, true)] ?_
  obtain ⟨hs, hl, h8, hc⟩ := hj
  have hS := s_slots_Check j.s hs
  have hW := s_wal_Check j.l hl
  have hL := s_slots_Load j.s hs
  simp -implicitDefEqProofs only [go_sem, seval, sk, Jr.cells, clF_map]
  first | refine call_k hS ?_ | refine call_d hS ?_
  by_cases c1 : j.s.ok
  · rw [chkS_ok c1]
    simp -implicitDefEqProofs only [go_sem, seval, sk]
    first | refine call_k hW ?_ | refine call_d hW ?_
    by_cases c2 : j.l.ok
    · rw [chk_ok c2]
      have hB := s_journal_base j.s hs c1
      rw [load_of c1] at hL
      simp -implicitDefEqProofs only [go_sem, seval, sk]
      have hB8 := baseV_len j.s
      have hin := fun h => baseV_in (s := j.s) h
      have hiff : j.ok ↔ (baseV j.s).2.2 = true ∧ j.s.next = nextO j.s ∧ (replayV (baseV j.s).2.1 j.l (baseV j.s).1) = (j.c, true) := by
        unfold Jr.ok replayV
        constructor
        · intro h
          exact ⟨h.2.2.1, h.2.2.2.1, by rw [if_pos ⟨h.2.2.2.2.1, h.2.2.2.2.2.1⟩]; exact h.2.2.2.2.2.2⟩
        · intro h
          obtain ⟨g1, g2, g3⟩ := h
          split at g3
          · rename_i h4
            exact ⟨c1, c2, g1, g2, h4.1, h4.2, g3⟩
          · simp at g3
      obtain ⟨⟨bn, bc, bk⟩, hbe⟩ : ∃ p, baseV j.s = p := ⟨_, rfl⟩
      rw [hbe] at hB hB8 hin hiff
      simp only at hB8 hin hiff
      cases hn : newO j.s with
      | none =>
        rw [hn] at hL
        simp only at hL
        first | refine call_k hL ?_ | refine call_d hL ?_
        have hx : nextO j.s = 1 := by simp only [nextO, hn]
        rw [hx] at hiff
        simp -implicitDefEqProofs only [go_sem, seval, sk]
        first | refine call_k hB ?_ | refine call_d hB ?_
        cases bk with
        | false =>
          rw [chkJ_bad fun h => by have := (hiff.1 h).1; cases this]
          simp -implicitDefEqProofs only [go_sem, seval, sk, clF_map, hB8]
          exact clF_one _ _
        | true =>
          obtain ⟨i0, i1, i2⟩ := hin rfl
          have hR := s_journal_replay bc hB8 j.l hl c2 bn (by omega) (by omega)
          have ht := clF_take (l := true) hB8
          simp -implicitDefEqProofs only [go_sem, seval, sk, clF_map, hB8]
          refine ⟨clF_one _ _, ?_⟩
          by_cases g2 : j.s.next = 1
          · have e2 : (j.s.next != 1) = false := by simp [g2]
            simp -implicitDefEqProofs only [go_sem, seval, sk, e2, List.append_nil]
            refine ⟨by omega, ?_⟩
            first | refine call_k hR ?_ (by simp -implicitDefEqProofs only [go_sem, seval, sk, ht]) | refine call_d hR ?_ (by simp -implicitDefEqProofs only [go_sem, seval, sk, ht])
            have hl8 := replayV_len hB8 j.l bn
            generalize replayV bc j.l bn = rp at *
            obtain ⟨rc, rk⟩ := rp
            simp only at hl8
            have ht2 := clF_take (l := true) hl8
            have htj := clF_take (l := false) h8
            have hdr := clF_drop (l := true) hB8
            cases rk with
            | false =>
              rw [chkJ_bad fun h => by have := (hiff.1 h).2.2; simp at this]
              simp -implicitDefEqProofs only [go_sem, seval, sk, clF_map, hl8, hB8, hdr, List.append_nil]
              exact clF_one _ _
            | true =>
              simp -implicitDefEqProofs only [go_sem, seval, sk, clF_map, hl8, hB8, hdr, List.append_nil]
              refine ⟨clF_one _ _, ?_⟩
              simp -implicitDefEqProofs only [go_sem, seval, sk, ht2, h8, htj, plains_clF true hl8, plains_clF false h8, eqCells_clT (show rc.length = j.c.length by omega)]
              refine ⟨⟨hl8, fun x hx => by simp only [clT, List.mem_map] at hx; obtain ⟨_, _, rfl⟩ := hx; trivial⟩, ?_⟩
              by_cases g4 : rc = j.c
              · rw [chkJ_ok (hiff.2 ⟨rfl, g2, by rw [g4]⟩)]
                simp -implicitDefEqProofs only [go_sem, seval, sk, decide_eq_true g4]
              · rw [chkJ_bad fun h => g4 (by have := (hiff.1 h).2.2; simpa using this)]
                simp -implicitDefEqProofs only [go_sem, seval, sk, decide_eq_false g4]
          · rw [chkJ_bad fun h => g2 (hiff.1 h).2.1]
            have e2 : (j.s.next != 1) = true := by simp [g2]
            simp -implicitDefEqProofs only [go_sem, seval, sk, e2]
      | some r =>
        rw [hn] at hL
        simp only at hL
        first | refine call_k hL ?_ | refine call_d hL ?_
        have hx : nextO j.s = r.num + 1 := by simp only [nextO, hn]
        rw [hx] at hiff
        have hrn := newO_ok hn
        have ew : IntKind.i64.wrap (r.num + 1) = r.num + 1 := wrap_i64_id (by omega) (by omega)
        simp -implicitDefEqProofs only [go_sem, seval, sk]
        first | refine call_k hB ?_ | refine call_d hB ?_
        cases bk with
        | false =>
          rw [chkJ_bad fun h => by have := (hiff.1 h).1; cases this]
          simp -implicitDefEqProofs only [go_sem, seval, sk, clF_map, hB8]
          exact clF_one _ _
        | true =>
          obtain ⟨i0, i1, i2⟩ := hin rfl
          have hR := s_journal_replay bc hB8 j.l hl c2 bn (by omega) (by omega)
          have ht := clF_take (l := true) hB8
          simp -implicitDefEqProofs only [go_sem, seval, sk, clF_map, hB8, ew]
          refine ⟨clF_one _ _, ?_⟩
          by_cases g2 : j.s.next = r.num + 1
          · have e2 : (j.s.next != r.num + 1) = false := by simp [g2]
            simp -implicitDefEqProofs only [go_sem, seval, sk, e2, List.append_nil]
            refine ⟨by omega, ?_⟩
            first | refine call_k hR ?_ (by simp -implicitDefEqProofs only [go_sem, seval, sk, ht]) | refine call_d hR ?_ (by simp -implicitDefEqProofs only [go_sem, seval, sk, ht])
            have hl8 := replayV_len hB8 j.l bn
            generalize replayV bc j.l bn = rp at *
            obtain ⟨rc, rk⟩ := rp
            simp only at hl8
            have ht2 := clF_take (l := true) hl8
            have htj := clF_take (l := false) h8
            have hdr := clF_drop (l := true) hB8
            cases rk with
            | false =>
              rw [chkJ_bad fun h => by have := (hiff.1 h).2.2; simp at this]
              simp -implicitDefEqProofs only [go_sem, seval, sk, clF_map, hl8, hB8, hdr, List.append_nil]
              exact clF_one _ _
            | true =>
              simp -implicitDefEqProofs only [go_sem, seval, sk, clF_map, hl8, hB8, hdr, List.append_nil]
              refine ⟨clF_one _ _, ?_⟩
              simp -implicitDefEqProofs only [go_sem, seval, sk, ht2, h8, htj, plains_clF true hl8, plains_clF false h8, eqCells_clT (show rc.length = j.c.length by omega)]
              refine ⟨⟨hl8, fun x hx => by simp only [clT, List.mem_map] at hx; obtain ⟨_, _, rfl⟩ := hx; trivial⟩, ?_⟩
              by_cases g4 : rc = j.c
              · rw [chkJ_ok (hiff.2 ⟨rfl, g2, by rw [g4]⟩)]
                simp -implicitDefEqProofs only [go_sem, seval, sk, decide_eq_true g4]
              · rw [chkJ_bad fun h => g4 (by have := (hiff.1 h).2.2; simpa using this)]
                simp -implicitDefEqProofs only [go_sem, seval, sk, decide_eq_false g4]
          · rw [chkJ_bad fun h => g2 (hiff.1 h).2.1]
            have e2 : (j.s.next != r.num + 1) = true := by simp [g2]
            simp -implicitDefEqProofs only [go_sem, seval, sk, e2]
    · rw [chk_bad c2, chkJ_bad fun h => c2 h.2.1]
      simp -implicitDefEqProofs only [go_sem, seval, sk]
  · rw [chkS_bad c1, chkJ_bad fun h => c1 h.1]
    simp -implicitDefEqProofs only [go_sem, seval, sk]
theorem s_journal_twin (s : Slt) (h0 : s.d0.small) (h1 : s.d1.small) : Spec Try.prog 29 [.agg s.cells] [] (.t (.agg s.cells) true) := by
  refine spec_k (hold mixed) b_journal_twin [(.agg s.cells, true)] ?_
  have a0 := h0.1
  have a1 := h0.2
  have b0 := h1.1
  have b1 := h1.2
  simp -implicitDefEqProofs only [go_sem, seval, sk]
  refine loop_u 3 (ln_step (by simp -implicitDefEqProofs only [go_sem, seval]; rfl) fun R0 hR0 => ?_)
  simp -implicitDefEqProofs only [go_sem, seval, sk]
  first | refine call_k (s_slices_Clone s.d0.syn (by omega)) ?_ | refine call_d (s_slices_Clone s.d0.syn (by omega)) ?_
  simp -implicitDefEqProofs only [go_sem, seval, sk]
  first | refine call_k (s_slices_Clone s.d0.tail (by omega)) ?_ | refine call_d (s_slices_Clone s.d0.tail (by omega)) ?_
  simp -implicitDefEqProofs only [go_sem, seval, sk]
  refine hR0 _ (ln_step (by simp -implicitDefEqProofs only [go_sem, seval]; rfl) fun R1 hR1 => ?_)
  simp -implicitDefEqProofs only [go_sem, seval, sk]
  first | refine call_k (s_slices_Clone s.d1.syn (by omega)) ?_ | refine call_d (s_slices_Clone s.d1.syn (by omega)) ?_
  simp -implicitDefEqProofs only [go_sem, seval, sk]
  first | refine call_k (s_slices_Clone s.d1.tail (by omega)) ?_ | refine call_d (s_slices_Clone s.d1.tail (by omega)) ?_
  simp -implicitDefEqProofs only [go_sem, seval, sk]
  refine hR1 _ (ln_step (by simp -implicitDefEqProofs only [go_sem, seval]; rfl) fun R2 hR2 => ?_)
  simp -implicitDefEqProofs only [go_sem, seval, sk]
def zeroJ : Jr := ⟨zeroS, zeroW, z8⟩
def opJ (p : Jr × Int) : List (T × Bool) := [(.agg p.1.cells, true), (.i .i64 p.2, true)]
def opJ3 (p : Jr × Int × Int) : List (T × Bool) := [(.agg p.1.cells, true), (.i .i64 p.2.1, true), (.i .i64 p.2.2, true)]
def newJ (n : Int) : Jr × Int := if (newS n).2 = 0 then (⟨(newS n).1, ⟨⟨[], [], n, false⟩, 0, 0⟩, z8⟩, 0) else (zeroJ, (newS n).2)
def doJ (j : Jr) (m : Int × Int) : Jr × Int × Int := if j.ok then (if (applyV j.c [m]).2 = 0 then (if (j.l.app (wrB m)).2.2 = 0 then (⟨j.s, (j.l.app (wrB m)).1, (applyV j.c [m]).1⟩, (j.l.app (wrB m)).2.1, 0)
  else (zeroJ, 0, (j.l.app (wrB m)).2.2)) else (zeroJ, 0, (applyV j.c [m]).2)) else (zeroJ, 0, 8)
def syncJ (j : Jr) : Jr × Int := if j.ok then (⟨j.s, (j.l.sync).1, j.c⟩, 0) else (zeroJ, 8)
def saveJ (j : Jr) : Jr × Int := if j.ok then (if (saveS j.s (ptB j)).2.2 = 0 then (⟨(saveS j.s (ptB j)).1, ((j.l.sync).1.drop j.l.next).1, j.c⟩, 0) else (zeroJ, (saveS j.s (ptB j)).2.2)) else (zeroJ, 8)
theorem zeroJ_cells : zeroJ.cells = [.sl [], .sl [], .i .i64 0, .b false, .sl [], .sl [], .i .i64 0, .b false, .i .i64 0, .sl [], .sl [], .i .i64 0, .b false, .i .i64 0, .i .i64 0, .i .i64 0, .i .i64 0, .i .i64 0, .i .i64 0, .i .i64 0, .i .i64 0, .i .i64 0, .i .i64 0] := rfl
theorem newD_ok {n : Int} (h : (newD n).2 = 0) : newD n = (⟨[], [], n, false⟩, 0) ∧ 0 ≤ n ∧ n ≤ 20000 := by
  unfold newD at h ⊢
  split at h
  · cases h
  · split at h
    · cases h
    · rename_i h1 h2
      rw [if_neg h1, if_neg h2]
      exact ⟨rfl, by omega, by omega⟩
theorem open_new {n : Int} (h0 : 0 ≤ n) (h1 : n ≤ 20000) : openW ⟨[], [], n, false⟩ 0 = (⟨⟨[], [], n, false⟩, 0, 0⟩, 0) := by
  have := open_of (d := ⟨[], [], n, false⟩) (n := 0) (rs := []) (check_of h0 h1 (by show (0 : Int) + 0 ≤ n; omega) (fun h => by cases h)) (by decide) (by decide) (by rfl) ⟨by rfl, fun h => by simp at h⟩
  rw [this]
  rfl
theorem newS_bad {n : Int} (h : ¬ (newD n).2 = 0) : newS n = (zeroS, (newD n).2) := if_neg h
theorem newS_good {n : Int} (h : (newD n).2 = 0) : newS n = (⟨⟨[], [], n, false⟩, ⟨[], [], n, false⟩, 1⟩, 0) := by rw [newS, if_pos h, (newD_ok h).1]
theorem s_journal_New (n : Int) : Spec Try.prog 6 [.i .i64 n] [] (resV ((opJ (newJ n)).map AV.ofT)) := by
  refine spec_k (hold mixed) b_journal_New (opJ (newJ n)) ?_
  have hS := s_slots_New n
  have hD := s_disk_New n
  simp -implicitDefEqProofs only [go_sem, seval, sk]
  by_cases h : (newD n).2 = 0
  · obtain ⟨e, h0, h1⟩ := newD_ok h
    have hO := s_wal_Open ⟨[], [], n, false⟩ ⟨Nat.zero_le _, Nat.zero_le _⟩ 0 (by decide) (by decide)
    rw [open_new h0 h1] at hO
    rw [newS_good h] at hS
    rw [show newJ n = (⟨⟨⟨[], [], n, false⟩, ⟨[], [], n, false⟩, 1⟩, ⟨⟨[], [], n, false⟩, 0, 0⟩, z8⟩, 0) by rw [newJ, newS_good h]; rfl]
    rw [e] at hD
    first | refine call_k hS ?_ | refine call_d hS ?_
    simp -implicitDefEqProofs only [go_sem, seval, sk, opJ, bT_nil8]
    first | refine call_k hD ?_ | refine call_d hD ?_
    simp -implicitDefEqProofs only [go_sem, seval, sk, opR, Dev.cells, bT_nil8]
    first | refine call_k hO ?_ (by simp -implicitDefEqProofs only [go_sem, seval, sk, Dev.cells, bT_nil8]) | refine call_d hO ?_ (by simp -implicitDefEqProofs only [go_sem, seval, sk, Dev.cells, bT_nil8])
    simp -implicitDefEqProofs only [go_sem, seval, sk, opW, bT_nil8, Jr.cells, z8_T]
  · rw [newS_bad h] at hS
    rw [show newJ n = (zeroJ, (newD n).2) by rw [newJ, newS_bad h, if_neg h]]
    generalize (newD n).2 = e at *
    have e1 : (e != 0) = true := by simp [h]
    first | refine call_k hS ?_ | refine call_d hS ?_
    simp -implicitDefEqProofs only [go_sem, seval, sk, opJ, zeroS_cells, zeroJ_cells, e1]
theorem syncJ_ok {j : Jr} (h : j.ok) : syncJ j = (⟨j.s, (j.l.sync).1, j.c⟩, 0) := if_pos h
theorem syncJ_bad {j : Jr} (h : ¬ j.ok) : syncJ j = (zeroJ, 8) := if_neg h
theorem s_journal_Sync (j : Jr) (hj : j.fine) : Spec Try.prog 7 [.agg j.cells] [] (resV ((opJ (syncJ j)).map AV.ofT)) := by
  refine spec_k (hold mixed) b_journal_Sync (opJ (syncJ j)) ?_
  have hC := s_journal_Check j hj
  obtain ⟨hs, hl, h8, hc⟩ := hj
  have hW := s_wal_Sync j.l hl
  have hT := s_journal_twin j.s hs.1 hs.2.1
  have htk := clF_take (l := false) h8
  simp -implicitDefEqProofs only [go_sem, seval, sk, Jr.cells, clF_map]
  refine ⟨by omega, ?_⟩
  first | refine call_k hC ?_ (by simp -implicitDefEqProofs only [go_sem, seval, sk, Jr.cells, htk]) | refine call_d hC ?_ (by simp -implicitDefEqProofs only [go_sem, seval, sk, Jr.cells, htk])
  by_cases h : j.ok
  · rw [chkJ_ok h, syncJ_ok h]
    rw [show j.l.sync = ((j.l.sync).1, 0) by unfold WLog.sync; rw [if_pos h.2.1]] at hW
    simp -implicitDefEqProofs only [go_sem, seval, sk]
    first | refine call_k hW ?_ | refine call_d hW ?_
    generalize (j.l.sync).1 = l2 at *
    simp -implicitDefEqProofs only [go_sem, seval, sk, opW]
    first | refine call_k hT ?_ | refine call_d hT ?_
    simp -implicitDefEqProofs only [go_sem, seval, sk, opJ, Jr.cells, clF_map, h8, clF_take h8]
    exact clF_one _ _
  · rw [chkJ_bad h, syncJ_bad h]
    simp -implicitDefEqProofs only [go_sem, seval, sk, opJ, zeroJ_cells]
theorem mvT_one (m : Int × Int) : mvT [m] = [[.i .i64 m.1, .i .i64 m.2]] := rfl
theorem doJ_bad {j : Jr} (m : Int × Int) (h : ¬ j.ok) : doJ j m = (zeroJ, 0, 8) := if_neg h
theorem doJ_app {j : Jr} {m : Int × Int} (h : j.ok) (h1 : ¬ (applyV j.c [m]).2 = 0) : doJ j m = (zeroJ, 0, (applyV j.c [m]).2) := by rw [doJ, if_pos h, if_neg h1]
theorem doJ_log {j : Jr} {m : Int × Int} (h : j.ok) (h1 : (applyV j.c [m]).2 = 0) (h2 : ¬ (j.l.app (wrB m)).2.2 = 0) : doJ j m = (zeroJ, 0, (j.l.app (wrB m)).2.2) := by rw [doJ, if_pos h, if_pos h1, if_neg h2]
theorem doJ_ok {j : Jr} {m : Int × Int} (h : j.ok) (h1 : (applyV j.c [m]).2 = 0) (h2 : (j.l.app (wrB m)).2.2 = 0) : doJ j m = (⟨j.s, (j.l.app (wrB m)).1, (applyV j.c [m]).1⟩, (j.l.app (wrB m)).2.1, 0) := by rw [doJ, if_pos h, if_pos h1, if_pos h2]
theorem s_journal_Do (j : Jr) (hj : j.fine) (m : Int × Int) (m0 : -9223372036854775808 ≤ m.2) (m1 : m.2 ≤ 9223372036854775807) : Spec Try.prog 13 [.agg j.cells, .agg (mT m)] [] (resV ((opJ3 (doJ j m)).map AV.ofT)) := by
  refine spec_k (hold mixed) b_journal_Do (opJ3 (doJ j m)) ?_
  have hC := s_journal_Check j hj
  obtain ⟨hs, hl, h8, hc⟩ := hj
  have hA := s_journal_Apply j.c h8 [m] (by simp)
  have hA8 := applyV_len [m] h8
  have hW := s_wal_Append j.l hl (wrB m) (by rw [wrB_len]; omega)
  have hT := s_journal_twin j.s hs.1 hs.2.1
  have htk := clF_take (l := false) h8
  rw [mvT_one] at hA
  simp -implicitDefEqProofs only [go_sem, seval, sk, Jr.cells, clF_map]
  refine ⟨by omega, ?_⟩
  first | refine call_k hC ?_ (by simp -implicitDefEqProofs only [go_sem, seval, sk, Jr.cells, htk]) | refine call_d hC ?_ (by simp -implicitDefEqProofs only [go_sem, seval, sk, Jr.cells, htk])
  by_cases h : j.ok
  · rw [chkJ_ok h] at *
    simp -implicitDefEqProofs only [go_sem, seval, sk]
    refine ⟨by omega, ?_⟩
    first | refine call_k hA ?_ (by simp -implicitDefEqProofs only [go_sem, seval, sk, htk]) | refine call_d hA ?_ (by simp -implicitDefEqProofs only [go_sem, seval, sk, htk])
    by_cases h1 : (applyV j.c [m]).2 = 0
    · by_cases h2 : (j.l.app (wrB m)).2.2 = 0
      · rw [doJ_ok h h1 h2]
        rw [show j.l.app (wrB m) = ((j.l.app (wrB m)).1, (j.l.app (wrB m)).2.1, 0) by rw [← h2]] at hW
        generalize (j.l.app (wrB m)).1 = l2 at *
        generalize (j.l.app (wrB m)).2.1 = n2 at *
        rw [h1] at hA ⊢
        generalize (applyV j.c [m]).1 = c2 at *
        have ht2 := clF_take (l := true) hA8
        simp -implicitDefEqProofs only [go_sem, seval, sk, clF_map, hA8, wrap_u8_int]
        refine ⟨clF_one _ _, ?_⟩
        have hP : SpecAp Try.prog 38 [[.i .u8 ((BitVec.ofInt 8 m.1).toNat : Nat)]] [.sl [[.i .i64 m.2]]] (bT (les [m.2])) := s_journal_put [BitVec.ofInt 8 m.1] [m.2] (by simp) (by simp)
        refine over_d (b := true) (bT (les [m.2])) hP (by simp -implicitDefEqProofs only [go_sem, seval, sk]) (by simp -implicitDefEqProofs only [go_sem, seval, sk]) ?_
        simp -implicitDefEqProofs only [go_sem, seval, sk, les_one, le8_len]
        have hL9 : (bT (wrB m)).length = 9 := by rw [bT_length, wrB_len]
        rw [wrB_bT] at hW
        first | refine call_k hW ?_ (by simp -implicitDefEqProofs only [go_sem, seval, sk, le8_len, le8_bT8]) (by simp -implicitDefEqProofs only [go_sem, seval, sk, opW3]) | refine call_d hW ?_ (by simp -implicitDefEqProofs only [go_sem, seval, sk, le8_len, le8_bT8]) (by simp -implicitDefEqProofs only [go_sem, seval, sk, opW3])
        simp -implicitDefEqProofs only [go_sem, seval, sk, opW3]
        first | refine call_k hT ?_ | refine call_d hT ?_
        simp -implicitDefEqProofs only [go_sem, seval, sk, ht2, hA8, opJ3, Jr.cells, clF_map]
        exact clF_one _ _
      · rw [doJ_log h h1 h2]
        rw [h1] at hA
        generalize (applyV j.c [m]).1 = c2 at *
        generalize j.l.app (wrB m) = la at *
        obtain ⟨l2, n2, e2⟩ := la
        simp only at h2
        have e3 : (e2 != 0) = true := by simp [h2]
        simp -implicitDefEqProofs only [go_sem, seval, sk, h1, clF_map, hA8, wrap_u8_int]
        refine ⟨clF_one _ _, ?_⟩
        have hP : SpecAp Try.prog 38 [[.i .u8 ((BitVec.ofInt 8 m.1).toNat : Nat)]] [.sl [[.i .i64 m.2]]] (bT (les [m.2])) := s_journal_put [BitVec.ofInt 8 m.1] [m.2] (by simp) (by simp)
        refine over_d (b := true) (bT (les [m.2])) hP (by simp -implicitDefEqProofs only [go_sem, seval, sk]) (by simp -implicitDefEqProofs only [go_sem, seval, sk]) ?_
        simp -implicitDefEqProofs only [go_sem, seval, sk, les_one, le8_len]
        have hL9 : (bT (wrB m)).length = 9 := by rw [bT_length, wrB_len]
        rw [wrB_bT] at hW
        first | refine call_k hW ?_ (by simp -implicitDefEqProofs only [go_sem, seval, sk, le8_len, le8_bT8]) (by simp -implicitDefEqProofs only [go_sem, seval, sk, opW3]) | refine call_d hW ?_ (by simp -implicitDefEqProofs only [go_sem, seval, sk, le8_len, le8_bT8]) (by simp -implicitDefEqProofs only [go_sem, seval, sk, opW3])
        simp -implicitDefEqProofs only [go_sem, seval, sk, opW3, e3, opJ3, zeroJ_cells]
    · rw [doJ_app h h1]
      generalize (applyV j.c [m]).2 = e at *
      have e1 : (e != 0) = true := by simp [h1]
      simp -implicitDefEqProofs only [go_sem, seval, sk, clF_map, hA8, e1, opJ3, zeroJ_cells]
      exact clF_one _ _
  · rw [chkJ_bad h] at *
    rw [doJ_bad m h]
    simp -implicitDefEqProofs only [go_sem, seval, sk, opJ3, zeroJ_cells]
def WLog.all (l : WLog) : WLog := ⟨⟨catR l.recs, [], l.dev.cap, false⟩, l.first, l.next⟩
def WLog.none (l : WLog) : WLog := ⟨⟨[], [], l.dev.cap, false⟩, l.next, l.next⟩
theorem lives_own {l : WLog} (h : l.ok) : Lives l l l.recs 0 := ⟨h, rfl, rfl, rfl, Nat.zero_le _⟩
theorem sync_all {l : WLog} (h : l.ok) : l.sync = (l.all, 0) := (lives_sync (lives_own h)).1
theorem all_ok {l : WLog} (h : l.ok) : l.all.ok ∧ l.all.recs = l.recs := by
  have := (lives_sync (lives_own h)).2
  exact ⟨this.ok, this.recs⟩
theorem drop_none {l : WLog} (h : l.ok) : l.all.drop l.next = (l.none, 0) := by
  obtain ⟨h1, h2⟩ := all_ok h
  have hs : (scanL l.all.dev.syn).length = l.recs.length := by
    show (scanL (catR l.recs)).length = _
    rw [scan_whole (row_ok h).follows]
  have hn := h.2.2.2.1
  have hd := drop_eq h1 (j := l.recs.length) (by rw [hs]; exact Nat.le_refl _)
  have hv := drop_dev h1 (j := l.recs.length) (by rw [hs]; exact Nat.le_refl _)
  rw [h2, List.take_length] at hv
  rw [show l.all.first + ((l.recs.length : Nat) : Int) = l.next from hn.symm] at hd
  rw [hd]
  show (WLog.mk (l.all.dev.drop (((catR (l.all.recs.take l.recs.length)).length : Nat) : Int)).1 (l.first + ((l.recs.length : Nat) : Int)) l.next, (0 : Int)) = _
  rw [h2, List.take_length, hv, ← hn]
  show (WLog.mk ⟨(catR l.recs).drop (catR l.recs).length, [], l.dev.cap, false⟩ l.next l.next, (0 : Int)) = _
  rw [List.drop_length]
  rfl
theorem none_ok {l : WLog} (h : l.ok) : l.none.ok ∧ l.none.recs = [] := by
  obtain ⟨b0, b1, b2⟩ := ok_bounds h
  obtain ⟨k0, k1, k2⟩ := cap_ok h
  have hn := h.2.2.2.1
  have h9 : l.next ≤ 1000000001 := by
    cases hr : l.recs with
    | nil => rw [hr] at hn; simp at hn; omega
    | cons r rs =>
      have hf := follows_num (row_ok h).follows (l.recs.length - 1) (by rw [hr]; simp)
      have h0 := (row_ok h).first (by rw [hr]; simp)
      have hk := (Rec.ok_iff _).1 (follows_ok (row_ok h).follows _ (List.getElem_mem (show l.recs.length - 1 < l.recs.length by rw [hr]; simp)))
      have hl : 0 < l.recs.length := by rw [hr]; simp
      omega
  exact ok_of_row (rs := []) ⟨by rfl, fun h => by simp at h⟩ (check_of k0 k1 (by show (0 : Int) + 0 ≤ _; exact k0) (fun h => by cases h)) rfl rfl rfl (by show l.next = l.next + 0; omega) (by show (0 : Int) ≤ l.next; omega) (by show l.next ≤ 1000000001; exact h9)
theorem saveJ_bad {j : Jr} (h : ¬ j.ok) : saveJ j = (zeroJ, 8) := if_neg h
theorem saveJ_no {j : Jr} (h : j.ok) (h1 : ¬ (saveS j.s (ptB j)).2.2 = 0) : saveJ j = (zeroJ, (saveS j.s (ptB j)).2.2) := by rw [saveJ, if_pos h, if_neg h1]
theorem saveJ_ok {j : Jr} (h : j.ok) (h1 : (saveS j.s (ptB j)).2.2 = 0) : saveJ j = (⟨(saveS j.s (ptB j)).1, j.l.none, j.c⟩, 0) := by
  rw [saveJ, if_pos h, if_pos h1, sync_all h.2.1]
  simp only
  rw [drop_none h.2.1]
theorem all_next (l : WLog) : l.all.next = l.next := rfl
theorem s_journal_Save (j : Jr) (hj : j.fine) : Spec Try.prog 8 [.agg j.cells] [] (resV ((opJ (saveJ j)).map AV.ofT)) := by
  refine spec_k (hold mixed) b_journal_Save (opJ (saveJ j)) ?_
  have hC := s_journal_Check j hj
  obtain ⟨hs, hl, h8, hc⟩ := hj
  have hP := s_journal_point j h8
  have hP9 := ptB_len h8
  have hS := s_slots_Save j.s hs (ptB j) (by omega)
  have hW := s_wal_Sync j.l hl
  have htk := clF_take (l := false) h8
  have hPT : List.take 72 (bT (ptB j)) = bT (ptB j) := List.take_of_length_le (by rw [bT_length]; omega)
  simp -implicitDefEqProofs only [go_sem, seval, sk, Jr.cells, clF_map]
  refine ⟨by omega, ?_⟩
  first | refine call_k hC ?_ (by simp -implicitDefEqProofs only [go_sem, seval, sk, Jr.cells, htk]) | refine call_d hC ?_ (by simp -implicitDefEqProofs only [go_sem, seval, sk, Jr.cells, htk])
  by_cases h : j.ok
  · rw [chkJ_ok h] at *
    rw [sync_all h.2.1] at hW
    have hD := s_wal_Drop j.l.all (log_fine (all_ok h.2.1).1) j.l.next (by have := hl.2.2.2.1; omega) (by have := hl.2.2.2.2; omega)
    rw [drop_none h.2.1] at hD
    by_cases h1 : (saveS j.s (ptB j)).2.2 = 0
    · rw [saveJ_ok h h1]
      rw [show saveS j.s (ptB j) = ((saveS j.s (ptB j)).1, (saveS j.s (ptB j)).2.1, 0) by rw [← h1]] at hS
      generalize (saveS j.s (ptB j)).1 = s2 at *
      generalize (saveS j.s (ptB j)).2.1 = n2 at *
      simp -implicitDefEqProofs only [go_sem, seval, sk]
      refine ⟨by omega, ?_⟩
      first | refine call_k hP ?_ (by simp -implicitDefEqProofs only [go_sem, seval, sk, Jr.cells, htk]) | refine call_d hP ?_ (by simp -implicitDefEqProofs only [go_sem, seval, sk, Jr.cells, htk])
      simp -implicitDefEqProofs only [go_sem, seval, sk]
      first | refine call_k hS ?_ (by simp -implicitDefEqProofs only [go_sem, seval, sk, hP9, hPT]) | refine call_d hS ?_ (by simp -implicitDefEqProofs only [go_sem, seval, sk, hP9, hPT])
      simp -implicitDefEqProofs only [go_sem, seval, sk, htk]
      first | refine call_k hW ?_ | refine call_d hW ?_
      simp -implicitDefEqProofs only [go_sem, seval, sk, opW, all_next]
      first | refine call_k hD ?_ (by simp -implicitDefEqProofs only [go_sem, seval, sk, all_next]) | refine call_d hD ?_ (by simp -implicitDefEqProofs only [go_sem, seval, sk, all_next])
      simp -implicitDefEqProofs only [go_sem, seval, sk, opW, opJ, Jr.cells, clF_map, h8, htk]
      exact clF_one _ _
    · rw [saveJ_no h h1]
      generalize saveS j.s (ptB j) = sp at *
      obtain ⟨s2, n2, e2⟩ := sp
      simp only at h1
      have e3 : (e2 != 0) = true := by simp [h1]
      simp -implicitDefEqProofs only [go_sem, seval, sk]
      refine ⟨by omega, ?_⟩
      first | refine call_k hP ?_ (by simp -implicitDefEqProofs only [go_sem, seval, sk, Jr.cells, htk]) | refine call_d hP ?_ (by simp -implicitDefEqProofs only [go_sem, seval, sk, Jr.cells, htk])
      simp -implicitDefEqProofs only [go_sem, seval, sk]
      first | refine call_k hS ?_ (by simp -implicitDefEqProofs only [go_sem, seval, sk, hP9, hPT]) | refine call_d hS ?_ (by simp -implicitDefEqProofs only [go_sem, seval, sk, hP9, hPT])
      simp -implicitDefEqProofs only [go_sem, seval, sk, htk, e3, opJ, zeroJ_cells]
  · rw [chkJ_bad h] at *
    rw [saveJ_bad h]
    simp -implicitDefEqProofs only [go_sem, seval, sk, opJ, zeroJ_cells]
def i64B (n : Int) : Prop := -9223372036854775808 ≤ n ∧ n ≤ 9223372036854775807
structure Jr.given (j : Jr) : Prop where
  s : i64B j.s.next
  f : i64B j.l.first
  n : i64B j.l.next
  len : j.c.length = 8
  c : ∀ x ∈ j.c, i64B x
def Jr.small (j : Jr) : Prop := j.s.d0.small ∧ j.s.d1.small ∧ j.l.dev.small ∧ j.c.length = 8
end Go.Proofs.Ytlfpafdkegnkoaa.Pm
