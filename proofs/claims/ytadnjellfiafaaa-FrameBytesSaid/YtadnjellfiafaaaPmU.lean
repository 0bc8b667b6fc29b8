/- The abstract machine, twentieth part: what is asked of a run ('W') is enough: code. No law of Go's is stated here. -/
import Derived.Test.YtadnjellfiafaaaPmDr
import Derived.ScopeJumps
set_option linter.all false
namespace Go.Proofs.Ytadnjellfiafaaa.Pm
open Go Go.RowKit

section
variable {P : Program} {w w' : World} {c : Ct} {m m' m1 : Mp} {h h' h1 : H} {ti : Nat → Option TI} {tm : Tm} {a : Act}

/-! ### A loop's head -/
def below1 (k : Nat) : AV → Bool
  | .row id .. | .vs id .. | .ptr id .. | .eptr id .. => decide (id < k)
  | .t .. | .nl | .e0 => true
  | _ => false

theorem below_of1 {k : Nat} {v : AV} (hb : below1 k v = true) : below k v = true := by
  cases v <;> first | exact hb | exact (Bool.false_ne_true hb).elim

/-- Sight is narrowed: values that lead nowhere else stay. -/
structure Nar (k : Nat) (h h' : H) : Prop where
  row : ∀ id v z es l, id < k → (h' id = some (.row v z es l) ↔ h id = some (.row v z es l))
  known : ∀ id, id < k → (h id).isSome = true → (h' id).isSome = true

theorem Nar.rowOf {k : Nat} (hN : Nar k h h') {id ver : Nat} (hid : id < k) {r : Nat × List (List T) × Bool} (hr : rowOf h' id ver = some r) : rowOf h id ver = some r := by
  obtain ⟨z, es, l⟩ := r
  have := (hN.row id ver z es l hid).1 (rowOf_some hr)
  simp [Pm.rowOf, this]

theorem vr_nar {B k : Nat} (hN : Nar k h h') {v : Value} {x : AV} (hx : below k x = true) (hv : VR m B h w v x) : VR m B h' w v x := by
  have one : ∀ {v : Value} {x : AV}, below1 k x = true → VR m B h w v x → VR m B h' w v x := by
    intro v x hx hv
    cases hv <;> simp only [below1, decide_eq_true_eq, Bool.false_eq_true] at hx
    case t y l hr => exact .t _ _ _ hr
    case nl => exact .nl
    case e0 A => exact .e0 A
    case row id ver off len cc A hid hver hc hr => exact .row id ver off len cc A (hN.known _ hx hid) (fun v' z es l hh => hver v' z es l ((hN.row _ _ _ _ _ hx).1 hh)) hc fun z es l hrow => hr z es l (hN.rowOf hx hrow)
    case vs id off len z cc A hid hc hA => exact .vs id off len z cc A (hN.known _ hx hid) hc hA
    case ptr id off hid => exact .ptr id off (hN.known _ hx hid)
    case eptr id ver i j a hid hver hr => exact .eptr id ver i j a (hN.known _ hx hid) (fun v' z es l hh => hver v' z es l ((hN.row _ _ _ _ _ hx).1 hh)) fun z es l hrow => hr z es l (hN.rowOf hx hrow)
  have flat : ∀ (y : AV), (match y with | .row id .. | .vs id .. | .ptr id .. | .eptr id .. => decide (id < k) | .t .. | .nl | .e0 => true | _ => false) = true → below1 k y = true := fun y hy => by cases y <;> first | exact hy | rfl
  cases x
  case agg cs =>
    simp only [below, List.all_eq_true] at hx
    cases hv with
    | agg vs _ hs hvv => exact .agg vs cs hs fun j u y hu hy => one (flat y (hx y (List.mem_of_getElem? hy))) (hvv j u y hu hy)
  case fn f cs =>
    simp only [below, List.all_eq_true] at hx
    cases hv with
    | fn _ vs _ hs hvv => exact .fn f vs cs hs fun j u y hu hy => one (flat y (hx y (List.mem_of_getElem? hy))) (hvv j u y hu hy)
  case tup => exact (Bool.false_ne_true hx).elim
  all_goals exact one hx hv

theorem restr_get {tm : Tm} : ∀ (ts : List Nat) (t : Nat) (v : AV), restr tm ts t = some v → tm t = some v
  | [], t, v, h => by cases h
  | a :: ts, t, v, h => by
    simp only [restr, up] at h
    split at h
    · rename_i e; subst e; exact h
    · exact restr_get ts t v h
theorem restrB_get {k : Nat} {h : H} {tm : Tm} : ∀ (ts : List Nat) (t : Nat) (v : AV), restrB k h tm ts t = some v → ∃ u, tm t = some u ∧ v = toT k h u ∧ below k v = true
  | [], t, v, hh => by cases hh
  | a :: ts, t, v, hh => by
    simp only [restrB, up] at hh
    split at hh
    · rename_i e
      subst e
      unfold belowO at hh
      split at hh
      · rename_i u hu
        unfold belowV at hh
        split at hh
        · simp only [Option.some.injEq] at hh
          subst hh
          exact ⟨u, hu, rfl, by assumption⟩
        · cases hh
      · cases hh
    · exact restrB_get ts t v hh

theorem lk_cut (hp : List Blk) (k : Nat) (h : H) (id : Nat) : lk ((hp.take k).map (cutB k h)) id = if id < k then (lk hp id).map (cutB k h) else none := by
  unfold lk
  rw [List.getElem?_map]
  by_cases h1 : id < k
  · rw [List.getElem?_take_of_lt h1, if_pos h1]
  · rw [if_neg h1, List.getElem?_eq_none (by simp; omega)]
    rfl

theorem toT1_vr (hM : Mem c m h w) {st' : Nat → Prop} {k : Nat} (he : Ext m h w { m with st := st' } h' w) (hst2 : ∀ id, k ≤ id → ∀ ver z es l, h id = some (.row ver z es l) → 0 < (m.ψ id).2 → st' (m.ψ id).1) {rv : Value} {v : AV} (hv : VR m c.B h w rv v) :
    VR { m with st := st' } c.B h' w rv (toT1 k h v) := by
  unfold toT1
  split
  · exact hv.mono he
  · rename_i hb
    split
    · rename_i x l us hemb
      cases v <;> simp only [emb, Option.some.injEq, Prod.mk.injEq, reduceCtorEq] at hemb
      case t y l' => simp [below] at hb
      case nl => simp [below] at hb
      case e0 => simp [below] at hb
      case row id ver off len =>
        simp only [below, decide_eq_false_iff_not, Nat.not_lt] at hb
        split at hemb <;> try cases hemb
        rename_i z es l' hr
        split at hemb <;> simp only [Option.some.injEq, Prod.mk.injEq, reduceCtorEq] at hemb
        rename_i hl
        obtain ⟨rfl, rfl, rfl⟩ := hemb
        refine .t _ _ _ ((row_rep hM hv hr hl).mono (fun b hb' => ⟨?_, hb'.2⟩) (fun _ _ => rfl))
        rcases hb'.1 with h1 | ⟨h1, rfl⟩
        · exact he.st _ h1
        · exact hst2 id hb _ _ _ _ (rowOf_some hr) h1
    · exact hv.mono he
theorem toT_vr (hM : Mem c m h w) {st' : Nat → Prop} {k : Nat} (he : Ext m h w { m with st := st' } h' w) (hst2 : ∀ id, k ≤ id → ∀ ver z es l, h id = some (.row ver z es l) → 0 < (m.ψ id).2 → st' (m.ψ id).1) {rv : Value} {v : AV} (hv : VR m c.B h w rv v) :
    VR { m with st := st' } c.B h' w rv (toT k h v) := by
  cases v
  case agg cs =>
    simp only [toT]
    cases hv with
    | agg vs _ hs hvv =>
      refine .agg vs _ (by simpa using hs) fun j u x hu hx => ?_
      rw [List.getElem?_map] at hx
      simp only [Option.map_eq_some_iff] at hx
      obtain ⟨y, hy, rfl⟩ := hx
      exact toT1_vr hM he hst2 (hvv j u y hu hy)
  all_goals exact toT1_vr hM he hst2 hv

theorem cut_sound {s : S} {mk : List Nat} {k : Nat} (hS : Sat c m (lk s.hp) s.tm a w) : ∃ m', Sat c m' (lk (cut mk k s).hp) (cut mk k s).tm a w := by
  let ids : List Nat := (List.range s.hp.length).filter fun i => decide (k ≤ i) && (match lk s.hp i with | some (.row ..) => true | _ => false)
  have hids : ∀ i ∈ ids, k ≤ i ∧ ∃ ver z es l, lk s.hp i = some (.row ver z es l) := fun i hi => by
    simp only [ids, List.mem_filter, Bool.and_eq_true, decide_eq_true_eq] at hi
    refine ⟨hi.2.1, ?_⟩
    have h2 := hi.2.2
    split at h2
    · exact ⟨_, _, _, _, by assumption⟩
    · cases h2
  have hids2 : ∀ id, k ≤ id → ∀ ver z es l, lk s.hp id = some (.row ver z es l) → id ∈ ids := fun id hid ver z es l hh => by
    simp only [ids, List.mem_filter, List.mem_range, Bool.and_eq_true, decide_eq_true_eq]
    exact ⟨lk_lt hh, hid, by rw [hh]⟩
  obtain ⟨st', e1, M1, hst1, hst2⟩ := goesAll ids hS.mem (fun id hid => .inl (hids id hid).2)
  have hst3 : ∀ id, k ≤ id → ∀ ver z es l, lk s.hp id = some (.row ver z es l) → 0 < (m.ψ id).2 → st' (m.ψ id).1 := fun id hid ver z es l hh hpos => hst2 id (hids2 id hid _ _ _ _ hh) _ _ _ _ hh hpos
  have hlow : ∀ id, id < k → uH (lk s.hp) (ids.map fun i => (i, Blk.gone)) id = lk s.hp id := fun id hid => uH_ne _ _ fun u hu e => by
    simp only [List.mem_map] at hu
    obtain ⟨i, hi, rfl⟩ := hu
    simp only at e
    subst e
    have := (hids i hi).1
    omega
  have hlk : lk (cut mk k s).hp = fun id => if id < k then (lk s.hp id).map (cutB k (lk s.hp)) else none := funext fun id => lk_cut s.hp k _ id
  have hrow : ∀ (b : Blk) (v z : Nat) (es : List (List T)) (l : Bool), cutB k (lk s.hp) b = .row v z es l ↔ b = .row v z es l := fun b v z es l => by
    cases b <;> simp [cutB]
    unfold varB
    split <;> simp
  have hN : Nar k (uH (lk s.hp) (ids.map fun i => (i, Blk.gone))) (lk (cut mk k s).hp) := by
    rw [hlk]
    refine ⟨fun id v z es l hid => ?_, fun id hid hh => ?_⟩
    · simp only [if_pos hid, Option.map_eq_some_iff, hrow, hlow id hid]
      exact ⟨fun ⟨b, h1, h2⟩ => by rw [h1, h2], fun h1 => ⟨_, h1, rfl⟩⟩
    · rw [hlow id hid] at hh
      simp only [if_pos hid]
      obtain ⟨b, hb⟩ := Option.isSome_iff_exists.1 hh
      rw [hb]; rfl
  have hpl : ∀ i g, place { m with st := st' } (lk (cut mk k s).hp) i = some g → place { m with st := st' } (uH (lk s.hp) (ids.map fun i => (i, Blk.gone))) i = some g := fun i g hg => by
    unfold place at hg ⊢
    rw [hlk] at hg
    simp only at hg
    by_cases hi : i < k
    · rw [if_pos hi] at hg
      rw [hlow i hi]
      cases hb : lk s.hp i with
      | none => rw [hb] at hg; simp at hg
      | some b =>
        rw [hb] at hg
        simp only [Option.map_some] at hg
        cases b
        · simp only [cutB] at hg
          unfold varB at hg
          split at hg
          · exact hg
          · simp [placeB] at hg
        · exact hg
        · exact hg
    · rw [if_neg hi] at hg; simp at hg
  refine ⟨{ m with st := st' }, ⟨M1.below, M1.kept, fun i b hi => ?_, fun i j g hi hj => M1.sep i j g (hpl i g hi) (hpl j g hj), M1.stlt, M1.stin⟩, hS.defers, hS.size, fun t v ht => ?_⟩
  · have hi' := hi
    rw [hlk] at hi'
    simp only at hi'
    by_cases hik : i < k
    · rw [if_pos hik] at hi'
      simp only [Option.map_eq_some_iff] at hi'
      obtain ⟨b0, hb0, rfl⟩ := hi'
      have hb := M1.blk i b0 (by rw [hlow i hik]; exact hb0)
      have hb1 := hS.mem.blk i b0 hb0
      cases b0 with
      | var cs =>
        simp only [cutB]
        unfold varB
        split
        · rename_i hall
          rw [List.all_eq_true] at hall
          obtain ⟨b1, b2, _⟩ := hb
          obtain ⟨_, _, rcs, tt, b3, b4, b5⟩ := hb1
          refine ⟨b1, b2, rcs, tt, b3, by simpa using b4, fun j v x hv hx => vr_nar hN (hall x (List.mem_of_getElem? hx)) ?_⟩
          rw [List.getElem?_map] at hx
          simp only [Option.map_eq_some_iff] at hx
          obtain ⟨y, hy, rfl⟩ := hx
          exact toT1_vr hS.mem e1 hst3 (b5 j v y hv hy)
        · exact trivial
      | row v z es l => exact hb
      | gone => exact trivial
    · rw [if_neg hik] at hi'; cases hi'
  · obtain ⟨u, h1, rfl, h2⟩ := restrB_get mk t v ht
    exact ⟨(hS.tmps t u h1).1, vr_nar hN h2 (toT_vr hS.mem e1 hst3 (hS.tmps t u h1).2)⟩

theorem lk_push (hp : List Blk) (b : Blk) : lk (hp ++ [b]) = setH (lk hp) hp.length b := by
  have := lk_upds [(hp.length, b)] hp ⟨Nat.le_refl _, trivial⟩
  simp only [upds, upd1, Nat.lt_irrefl, if_false] at this
  exact this

theorem adopt_sound : ∀ (ad : List (Nat × Nat)) {s : S} {m : Mp}, Sat c m (lk s.hp) s.tm a w → ∃ m', Sat c m' (lk (adopt ad s).hp) (adopt ad s).tm a w
  | [], s, m, hS => ⟨m, hS⟩
  | (t, z) :: r, s, m, hS => by
    simp only [adopt]
    split
    · rename_i ht
      obtain ⟨rv, hrv, hvr⟩ := tmps_get hS ht
      by_cases hz : z = 0
      · rw [if_pos hz]
        refine adopt_sound r (s := ⟨up s.tm t (some (.t (.sl []) true)), s.hp⟩) ⟨hS.mem, hS.defers, hS.size, fun t' v hv => ?_⟩
        by_cases e : t' = t
        · subst e
          simp only [up, if_true, Option.some.injEq] at hv
          subst hv
          have : a.tmps.getD t' undef = rv := by simp [Array.getD_eq_getD_getElem?, hrv]
          refine ⟨(Array.getElem?_eq_some_iff.1 hrv).1, ?_⟩
          rw [this]
          cases hvr
          exact .t _ _ _ (Rep.nilslice _)
        · simp only [up, if_neg e] at hv
          exact hS.tmps t' v hv
      rw [if_neg hz]
      have G := hS.mem.add (lk_none s.hp) (.row 0 z [] true) 0 (0, 0) (fun g hg => by simp [placeB, setF] at hg) (fun he => ⟨by simp [setF], by simp, by simp, fun h0 => by simp [setF] at h0⟩)
      rw [← lk_push] at G
      have hS1 := hS.of_mem G.1 G.2
      refine adopt_sound r (s := ⟨up s.tm t (some (.row s.hp.length 0 0 0)), s.hp ++ [.row 0 z [] true]⟩) ⟨hS1.mem, hS1.defers, hS1.size, fun t' v hv => ?_⟩
      by_cases e : t' = t
      · subst e
        simp only [up, if_true, Option.some.injEq] at hv
        subst hv
        have : a.tmps.getD t' undef = rv := by simp [Array.getD_eq_getD_getElem?, hrv]
        refine ⟨(Array.getElem?_eq_some_iff.1 hrv).1, ?_⟩
        rw [this]
        cases hvr
        refine .row _ 0 0 0 0 none (by simp [lk]) (fun _ _ _ _ _ => Nat.zero_le _) (Nat.le_refl _) fun z es l hr => ⟨by simp, by simp⟩
      · simp only [up, if_neg e] at hv
        exact hS1.tmps t' v hv
    · exact adopt_sound r hS

/-- A row takes the number of another one. -/
theorem Mem.moved (hM : Mem c m h w) {r v0 z0 : Nat} {es0 : List (List T)} {l0 : Bool} (hr : h r = some (.row v0 z0 es0 l0)) {id ver z : Nat} {es : List (List T)} {l : Bool} (hid : h id = some (.row ver z es l)) (hne : r ≠ id) :
    Ext m h w { m with ψ := setF m.ψ r (m.ψ id) } (setH (setH h id .gone) r (.row (v0 + 1) z es l)) w ∧ Mem c { m with ψ := setF m.ψ r (m.ψ id) } (setH (setH h id .gone) r (.row (v0 + 1) z es l)) w := by
  have hr' : setH (setH h id .gone) r (.row (v0 + 1) z es l) r = some (.row (v0 + 1) z es l) := by simp [setH]
  have hid' : setH (setH h id .gone) r (.row (v0 + 1) z es l) id = some .gone := by simp [setH, Ne.symm hne]
  have ho : ∀ i, i ≠ r → i ≠ id → setH (setH h id .gone) r (.row (v0 + 1) z es l) i = h i := fun i h1 h2 => by simp [setH, h1, h2]
  have he : Ext m h w { m with ψ := setF m.ψ r (m.ψ id) } (setH (setH h id .gone) r (.row (v0 + 1) z es l)) w := by
    refine ⟨fun i hi => ?_, fun _ _ => rfl, fun i v' z' es' l' hi hh => ?_, fun i ver' z' es' l' hi hv hh => ?_, fun _ h => h, fun _ _ => rfl⟩
    · by_cases e1 : i = r
      · subst e1; rw [hr']; rfl
      · by_cases e2 : i = id
        · subst e2; rw [hid']; rfl
        · rw [ho i e1 e2]; exact hi
    · by_cases e1 : i = r
      · subst e1
        rw [hr'] at hh
        simp only [Option.some.injEq, Blk.row.injEq] at hh
        exact ⟨v0, z0, es0, l0, hr, by omega⟩
      · by_cases e2 : i = id
        · subst e2; rw [hid'] at hh; cases hh
        · rw [ho i e1 e2] at hh
          exact ⟨v', z', es', l', hh, Nat.le_refl _⟩
    · have hh' := rowOf_some hh
      by_cases e1 : i = r
      · subst e1
        rw [hr'] at hh'
        simp only [Option.some.injEq, Blk.row.injEq] at hh'
        have := hv _ _ _ _ hr
        omega
      · by_cases e2 : i = id
        · subst e2; rw [hid'] at hh'; cases hh'
        · rw [ho i e1 e2] at hh'
          exact ⟨⟨es', l', by simp [rowOf, hh']⟩, by simp [setF, e1]⟩
  have hplr : place { m with ψ := setF m.ψ r (m.ψ id) } (setH (setH h id .gone) r (.row (v0 + 1) z es l)) r = place m h id := by
    simp [place, hr', hid, placeB, setF]
  have hpli : place { m with ψ := setF m.ψ r (m.ψ id) } (setH (setH h id .gone) r (.row (v0 + 1) z es l)) id = none := by simp [place, hid', placeB]
  have hpl : ∀ i, i ≠ r → i ≠ id → place { m with ψ := setF m.ψ r (m.ψ id) } (setH (setH h id .gone) r (.row (v0 + 1) z es l)) i = place m h i := fun i h1 h2 => by
    unfold place
    rw [ho i h1 h2]
    cases h i with
    | none => rfl
    | some b => cases b <;> simp [placeB, setF, h1]
  refine ⟨he, ⟨hM.below, he.kept hM.kept, fun i b hi => ?_, fun i j g hi hj => ?_, hM.stlt, hM.stin⟩⟩
  · by_cases e1 : i = r
    · subst e1
      rw [hr'] at hi
      simp only [Option.some.injEq] at hi
      subst hi
      obtain ⟨a1, a2, a3, a4⟩ := hM.blk _ _ hid
      have e : setF m.ψ i (m.ψ id) i = m.ψ id := by simp [setF]
      exact ⟨by simp only [e]; exact a1, a2, a3, by simp only [e]; exact a4⟩
    · by_cases e2 : i = id
      · subst e2
        rw [hid'] at hi
        simp only [Option.some.injEq] at hi
        subst hi
        trivial
      · rw [ho i e1 e2] at hi
        exact (hM.blk i b hi).keep he rfl (by simp [setF, e1]) fun g hg => ⟨(hM.placed hi hg).2.2, rfl⟩
  · have key : ∀ i g, place { m with ψ := setF m.ψ r (m.ψ id) } (setH (setH h id .gone) r (.row (v0 + 1) z es l)) i = some g → (i = r ∧ place m h id = some g) ∨ (i ≠ r ∧ i ≠ id ∧ place m h i = some g) := fun i g hi => by
      by_cases e1 : i = r
      · subst e1; rw [hplr] at hi; exact .inl ⟨rfl, hi⟩
      · by_cases e2 : i = id
        · subst e2; rw [hpli] at hi; cases hi
        · rw [hpl i e1 e2] at hi; exact .inr ⟨e1, e2, hi⟩
    rcases key i g hi with ⟨rfl, h1⟩ | ⟨h0, h0', h1⟩ <;> rcases key j g hj with ⟨rfl, h2⟩ | ⟨h3, h3', h2⟩
    · rfl
    · exact (h3' (hM.sep j id g h2 h1)).elim
    · exact (h0' (hM.sep i id g h1 h2)).elim
    · exact hM.sep i j g h1 h2

theorem lk_set2 {hp : List Blk} {i : Nat} {b : Blk} (hi : (lk hp i).isSome = true) : lk (hp.set i b) = setH (lk hp) i b := by
  obtain ⟨b0, hb0⟩ := Option.isSome_iff_exists.1 hi
  have hlt := lk_lt hb0
  funext j
  by_cases e : j = i
  · subst e; simp [lk, setH, hlt]
  · simp [lk, setH, e, Ne.symm e]

theorem mv1_sound {M t r : Nat} {s : S} (hS : Sat c m (lk s.hp) s.tm a w) : ∃ m', Sat c m' (lk (mv1 M t r s).hp) (mv1 M t r s).tm a w := by
  unfold mv1
  split
  · rename_i id ver off len hv
    split
    · exact ⟨m, hS⟩
    · rename_i hc
      unfold mv2
      split
      · rename_i z es l v0 z0 es0 l0 hrow hr0
        have hid := rowOf_some hrow
        have hne : r ≠ id := by omega
        have hoff : off = 0 := by omega
        subst hoff
        have hlk : lk ((s.hp.set id .gone).set r (.row (v0 + 1) z es l)) = setH (setH (lk s.hp) id .gone) r (.row (v0 + 1) z es l) := by
          rw [lk_set2, lk_set2 (by rw [hid]; rfl)]
          rw [lk_set2 (by rw [hid]; rfl)]
          simp [setH, hne, hr0]
        obtain ⟨e1, M1⟩ := hS.mem.moved hr0 hid hne
        have hS1 := hS.of_mem e1 M1
        rw [hlk]
        refine ⟨_, hS1.mem, hS1.defers, hS1.size, fun t' v ht => ?_⟩
        by_cases e : t' = t
        · subst e
          simp only [up, if_true, Option.some.injEq] at ht
          subst ht
          obtain ⟨hlt, hvr⟩ := hS.tmps t' _ (gt_some hv)
          refine ⟨hlt, ?_⟩
          generalize a.tmps.getD t' undef = rv at hvr
          cases hvr with
          | row _ _ _ _ cap A hid' hver hcap hra =>
            obtain ⟨a1, a2⟩ := hra _ _ _ hrow
            refine .row r (v0 + 1) 0 len cap A (by simp [setH]) (fun v' z' es' l' hh => ?_) hcap fun z' es' l' hh => ?_
            · simp [setH] at hh; omega
            · simp [rowOf, setH] at hh
              obtain ⟨rfl, rfl, rfl⟩ := hh
              simp only [setF, if_true]
              exact ⟨a1, a2⟩
        · simp only [up, if_neg e] at ht
          exact hS1.tmps t' v ht
      · exact ⟨m, hS⟩
  · exact ⟨m, hS⟩
theorem mvS_sound {M : Nat} : ∀ (l : List (Nat × Nat)) {s : S} {m : Mp}, Sat c m (lk s.hp) s.tm a w → ∃ m', Sat c m' (lk (mvS M l s).hp) (mvS M l s).tm a w
  | [], s, m, hS => ⟨m, hS⟩
  | (t, r) :: l, s, m, hS => by
    obtain ⟨m1, h1⟩ := mv1_sound (M := M) (t := t) (r := r) hS
    exact mvS_sound l h1
theorem hdL_sound {ad : List (Nat × Nat)} {mk : List Nat} {s0 s : S} (hS : Sat c m (lk s.hp) s.tm a w) : ∃ m', Sat c m' (lk (hdL ad mk s0 s).hp) (hdL ad mk s0 s).tm a w := by
  obtain ⟨m1, h1⟩ := mvS_sound (M := s0.hp.length) (mvs s0.tm ad) hS
  exact cut_sound h1

/-! ### Code -/
def Ex.exit : Ex → Exit
  | .n => .normal
  | .x id => .exit id
  | .r => .ret
  | .g l => .goto l

/-- What a run may lead to. -/
def Lets (c : Ct) (K : Ex → S → Prop) (Q : Exit → Act → World → Prop) : Prop := ∀ e s a w m, K e s → Sat c m (lk s.hp) s.tm a w → Q e.exit a w

/-- The walk's question is enough for this code. -/
def Fair (x : Cx) (c : Ct) (cd : Code) (body : (Ex → S → Prop) → S → Prop) : Prop := ∀ (K : Ex → S → Prop) (Q : Exit → Act → World → Prop), Lets c K Q → ∀ s a w m, Sat c m (lk s.hp) s.tm a w → body K s → cd.wp c.P Q a w

theorem loop_sound {x : Cx} {cd : Code} {body : (Ex → S → Prop) → S → Prop} (hb : Fair x c cd body) {hd : S → S} (hhd : ∀ (s : S) (a : Act) (w : World) (m : Mp), Sat c m (lk s.hp) s.tm a w → ∃ m', Sat c m' (lk (hd s).hp) (hd s).tm a w) {K : Ex → S → Prop} {Q : Exit → Act → World → Prop} (hQ : Lets c K Q) {s : S} (hS : Sat c m (lk s.hp) s.tm a w) {lb : Lock body} {lK : Lock K} (hK : wloop hd body K s lb lK) : (Code.loop cd).wp c.P Q a w := by
  obtain ⟨n, hn⟩ := hK
  refine wp_loop_ghost (fun n a w => ∃ s m, Sat c m (lk s.hp) s.tm a w ∧ rounds hd body K n s) n ⟨s, m, hS, hn⟩ ?_
  rintro n a w ⟨s, m, hS, hr⟩
  cases n with
  | zero => exact hr.elim
  | succ n =>
    obtain ⟨m1, hS1⟩ := hhd s a w m hS
    refine hb _ _ (fun e s' a' w' m' he hS' => ?_) (hd s) a w m1 hS1 hr
    cases e with
    | n => exact ⟨n, Nat.lt_succ_self _, s', m', hS', he⟩
    | x id => exact hQ _ _ _ _ _ he hS'
    | r => exact hQ _ _ _ _ _ he hS'
    | g l => exact hQ _ _ _ _ _ he hS'

theorem W_sound0 {x : Cx} (E : Env x c) {fl : List Nat} : ∀ (cd : Code) (hs hs' : List Hint) (C : C), tr0 c.n fl cd hs = some (C, hs') → Fair x c cd (W x C) := by
  intro cd
  induction cd with
  | skip =>
    intro hs hs' C ht K Q hQ s a w m hS hK
    simp only [tr0, Option.some.injEq, Prod.mk.injEq] at ht
    obtain ⟨rfl, rfl⟩ := ht
    exact wp_skip (hQ _ _ _ _ _ hK hS)
  | label l =>
    intro hs hs' C ht K Q hQ s a w m hS hK
    simp only [tr0, Option.some.injEq, Prod.mk.injEq] at ht
    obtain ⟨rfl, rfl⟩ := ht
    exact wp_label (hQ _ _ _ _ _ hK hS)
  | region id ops dr =>
    intro hs hs' C ht K Q hQ s a w m hS hK
    have hfin : ∀ (ts : List Nat) (s' : S) (a' : Act) (w' : World) (m' : Mp), K .n ⟨restr s'.tm ts, s'.hp⟩ → Sat c m' (lk s'.hp) s'.tm a' w' → Q .normal a' w' := fun ts s' a' w' m' hk hS' =>
      hQ .n ⟨restr s'.tm ts, s'.hp⟩ a' w' m' hk ⟨hS'.mem, hS'.defers, hS'.size, fun t v ht => hS'.tmps t v (restr_get ts t v ht)⟩
    cases hs with
    | nil => cases dr <;> simp [tr0] at ht
    | cons hh hs =>
    cases dr with
    | false =>
      simp only [tr0, Option.map_eq_some_iff, Prod.mk.injEq] at ht
      obtain ⟨l, hl, rfl, rfl⟩ := ht
      refine wp_region ?_
      rw [W_seq, W_reg] at hK
      simp only [W_keep] at hK
      have := wops_sound E (ops := ops) (K := fun s' => K .n ⟨restr s'.tm hh.kp, s'.hp⟩) (Q := Q) (fun s' a' w' m' hk hS' => hfin hh.kp s' a' w' m' hk hS') ops.toList 0 l s m a w (by simp) hl hS hK
      simpa [List.range_eq_range'] using this
    | true =>
      simp only [tr0] at ht
      split at ht <;> try cases ht
      rename_i hok
      simp only [Option.map_eq_some_iff, Prod.mk.injEq] at ht
      obtain ⟨l, hl, rfl, rfl⟩ := ht
      rw [W_seq, W_draw] at hK
      simp only [W_keep] at hK
      exact draw_sound E E.mixed hok hl (K := fun s' => K .n ⟨restr s'.tm hh.kp, s'.hp⟩) (fun s' a' w' m' hk hS' => hfin hh.kp s' a' w' m' hk hS') hS hK
  | seq y z ihy ihz =>
    intro hs hs' C ht K Q hQ s a w m hS hK
    simp only [tr0] at ht
    split at ht <;> try cases ht
    rename_i a' hs1 h1
    split at ht <;> simp only [Option.some.injEq, Prod.mk.injEq, reduceCtorEq] at ht
    rename_i b' hs2 h2
    obtain ⟨rfl, rfl⟩ := ht
    refine wp_seq (ihy _ _ _ h1 _ _ (fun e s' a' w' m' he hS' => ?_) s a w m hS hK)
    cases e with
    | n => exact ihz _ _ _ h2 K Q hQ s' a' w' m' hS' he
    | x id => exact hQ _ _ _ _ _ he hS'
    | r => exact hQ _ _ _ _ _ he hS'
    | g l => exact hQ _ _ _ _ _ he hS'
  | cond cc y z ihy ihz =>
    intro hs hs' C ht K Q hQ s a w m hS hK
    simp only [tr0] at ht
    split at ht <;> try cases ht
    rename_i a' hs1 h1
    split at ht <;> simp only [Option.some.injEq, Prod.mk.injEq, reduceCtorEq] at ht
    rename_i b' hs2 h2
    obtain ⟨rfl, rfl⟩ := ht
    simp only [W] at hK
    split at hK <;> try exact hK.elim
    rename_i y l hy
    have hv := ev_vr hS hy
    generalize he : a.eval cc = rv at hv
    cases hv with
    | t _ _ _ hr =>
      cases hr
      exact wp_cond_split he (fun hb => ihy _ _ _ h1 K Q hQ s a w m hS (hK.1 hb)) (fun hb => ihz _ _ _ h2 K Q hQ s a w m hS (hK.2 hb))
  | block id y ih =>
    intro hs hs' C ht K Q hQ s a w m hS hK
    simp only [tr0] at ht
    split at ht <;> simp only [Option.some.injEq, Prod.mk.injEq, reduceCtorEq] at ht
    rename_i a' hs1 h1
    obtain ⟨rfl, rfl⟩ := ht
    refine wp_block (ih _ _ _ h1 _ _ (fun e s' a' w' m' he hS' => ?_) s a w m hS hK)
    cases e with
    | n => exact hQ _ _ _ _ _ he hS'
    | x j =>
      simp only at he
      show Exit.inBlock id Q (.exit j) a' w'
      simp only [Exit.inBlock]
      split
      · rename_i hj; rw [if_pos hj] at he; exact hQ .n _ _ _ _ he hS'
      · rename_i hj; rw [if_neg hj] at he; exact hQ (.x j) _ _ _ _ he hS'
    | r => exact hQ _ _ _ _ _ he hS'
    | g l => exact hQ _ _ _ _ _ he hS'
  | loop y ih =>
    intro hs hs' C ht K Q hQ s a w m hS hK
    cases hs with
    | nil => simp [tr0] at ht
    | cons hh hs =>
      simp only [tr0] at ht
      split at ht <;> simp only [Option.some.injEq, Prod.mk.injEq, reduceCtorEq] at ht
      rename_i a' hs1 h1
      obtain ⟨rfl, rfl⟩ := ht
      obtain ⟨m', hS'⟩ := adopt_sound hh.ad hS
      exact loop_sound (ih _ _ _ h1) (fun s a w m h => hdL_sound h) hQ hS' hK
  | exit id =>
    intro hs hs' C ht K Q hQ s a w m hS hK
    simp only [tr0, Option.some.injEq, Prod.mk.injEq] at ht
    obtain ⟨rfl, rfl⟩ := ht
    exact wp_exit (hQ _ _ _ _ _ hK hS)
  | ret =>
    intro hs hs' C ht K Q hQ s a w m hS hK
    simp only [tr0, Option.some.injEq, Prod.mk.injEq] at ht
    obtain ⟨rfl, rfl⟩ := ht
    exact wp_ret (hQ _ _ _ _ _ hK hS)
  | goto l =>
    intro hs hs' C ht K Q hQ s a w m hS hK
    simp only [tr0, Option.some.injEq, Prod.mk.injEq] at ht
    obtain ⟨rfl, rfl⟩ := ht
    exact wp_goto (hQ _ _ _ _ _ hK hS)
  | _ => intro hs hs' C ht; simp [tr0] at ht

theorem rest_get {x : Cx} {fl : List Nat} {cd : Code} : ∀ (ls : List Nat) (hs hs' : List Hint) (gs : List (Nat × C)), restOf (tr0 c.n fl) cd ls hs = some (gs, hs') → ∀ l b, Ws x gs l = some b → ∃ rest C h1 h2, findLabel cd l = some rest ∧ tr0 c.n fl rest h1 = some (C, h2) ∧ b = W x C
  | [], hs, hs', gs, h => by
    simp only [restOf, Option.some.injEq, Prod.mk.injEq] at h
    obtain ⟨rfl, rfl⟩ := h
    intro l b hb
    simp [Ws] at hb
  | l0 :: ls, hs, hs', gs, h => by
    simp only [restOf] at h
    split at h <;> try cases h
    rename_i rest hf
    split at h <;> try cases h
    rename_i c' hs1 ht
    split at h <;> simp only [Option.some.injEq, Prod.mk.injEq, reduceCtorEq] at h
    rename_i gs' hs2 hr
    obtain ⟨rfl, rfl⟩ := h
    intro l b hb
    simp only [Ws] at hb
    split at hb
    · rename_i e
      subst e
      simp only [Option.some.injEq] at hb
      exact ⟨rest, c', _, _, hf, ht, hb.symm⟩
    · exact rest_get ls hs1 _ gs' hr l b hb

/-- As Q; by a goto: J. -/
def jumpJ (J : Nat → Act → World → Prop) (Q : Exit → Act → World → Prop) : Exit → Act → World → Prop
  | .goto l, a, w => J l a w
  | e, a, w => Q e a w

theorem wp_scope_all {Q : Exit → Act → World → Prop} {cd : Code} (J : Nat → Nat → Act → World → Prop) (first : cd.wp P (jumpJ (fun l a w => ∃ n, J l n a w) Q) a w)
    (pass : ∀ l n a w, J l n a w → ∃ rest, findLabel cd l = some rest ∧ rest.wp P (jumpJ (fun l' a' w' => ∃ n', n' < n ∧ J l' n' a' w') Q) a w) : (Code.scope cd).wp P Q a w := by
  intro b k cs
  have key : ∀ n l a w, J l n a w → ∃ rest, findLabel cd l = some rest ∧ ∃ e a' w', Q e a' w' ∧ Arrives P (lone (b.at a (.code rest :: .inScope cd :: k)) cs w) b k cs e a' w' := by
    intro n
    induction n using Nat.strongRecOn with
    | _ n ih =>
      intro l a w hJ
      obtain ⟨rest, hf, hp⟩ := pass l n a w hJ
      refine ⟨rest, hf, ?_⟩
      obtain ⟨e, a₁, w₁, hq, harr⟩ := hp b (.inScope cd :: k) cs
      cases e with
      | normal => exact ⟨.normal, a₁, w₁, hq, Steps.trans harr (.one step_inScope)⟩
      | exit id => exact ⟨.exit id, a₁, w₁, hq, fun k' hk => harr k' (by simp [exitTo, hk])⟩
      | goto l' =>
        obtain ⟨n', hlt, hJ'⟩ := hq
        obtain ⟨rest', hf', e₂, a₂, w₂, hq₂, harr₂⟩ := ih n' hlt l' a₁ w₁ hJ'
        exact ⟨e₂, a₂, w₂, hq₂, .of_steps (harr _ (by simp [gotoIn, hf'])) harr₂⟩
      | ret => exact ⟨_, a₁, w₁, hq, harr⟩
      | panic ch => exact ⟨_, a₁, w₁, hq, harr⟩
      | outgrown => exact ⟨_, a₁, w₁, hq, harr⟩
  obtain ⟨e, a₁, w₁, hq, harr⟩ := first b (.inScope cd :: k) cs
  cases e with
  | normal => exact ⟨.normal, a₁, w₁, hq, .head step_scope (Steps.trans harr (.one step_inScope))⟩
  | exit id => exact ⟨.exit id, a₁, w₁, hq, fun k' hk => .head step_scope (harr k' (by simp [exitTo, hk]))⟩
  | goto l' =>
    obtain ⟨n, hJ'⟩ := hq
    obtain ⟨rest', hf', e₂, a₂, w₂, hq₂, harr₂⟩ := key n l' a₁ w₁ hJ'
    exact ⟨e₂, a₂, w₂, hq₂, .of_steps (.head step_scope (harr _ (by simp [gotoIn, hf']))) harr₂⟩
  | ret => exact ⟨_, a₁, w₁, hq, .of_steps (.one step_scope) harr⟩
  | panic ch => exact ⟨_, a₁, w₁, hq, .of_steps (.one step_scope) harr⟩
  | outgrown => exact ⟨_, a₁, w₁, hq, .of_steps (.one step_scope) harr⟩

theorem W_sound {x : Cx} (E : Env x c) {fl : List Nat} : ∀ (cd : Code) (hs hs' : List Hint) (C : C), tr c.n fl cd hs = some (C, hs') → Fair x c cd (W x C)
  | .scope cd, hs, hs', C, ht => by
    intro K Q hQ s a w m hS hK
    cases hs with
    | nil => simp [tr, tr0] at ht
    | cons hh hs =>
      simp only [tr] at ht
      split at ht <;> try cases ht
      rename_i c' hs1 h1
      split at ht <;> simp only [Option.some.injEq, Prod.mk.injEq, reduceCtorEq] at ht
      rename_i gs hs2 h2
      obtain ⟨rfl, rfl⟩ := ht
      rw [W_scope] at hK
      obtain ⟨J, hJ1, hJ2⟩ := hK
      refine wp_scope_all (fun l n a w => ∃ s m, Sat c m (lk s.hp) s.tm a w ∧ J l n s) (W_sound0 E cd _ _ _ h1 _ _ (fun e s' a' w' m' he hS' => ?_) s a w m hS hJ1) ?_
      · cases e with
        | n => exact hQ _ _ _ _ _ he hS'
        | x id => exact hQ _ _ _ _ _ he hS'
        | r => exact hQ _ _ _ _ _ he hS'
        | g l =>
          obtain ⟨n, hn⟩ := he
          exact ⟨n, s', m', hS', hn⟩
      · rintro l n a w ⟨s, m, hS, hj⟩
        obtain ⟨k, hk⟩ := hJ2 l n s hj
        split at hk <;> try exact hk.elim
        rename_i b hb
        obtain ⟨rest, C', g1, g2, hf, htr, rfl⟩ := rest_get _ _ _ _ h2 l b hb
        refine ⟨rest, hf, ?_⟩
        obtain ⟨m', hS'⟩ := adopt_sound hh.ad hS
        obtain ⟨m1, hS1⟩ := cut_sound (mk := hh.kp) (k := k) hS'
        refine W_sound0 E rest _ _ _ htr _ _ (fun e s' a' w' m' he hS' => ?_) _ a w m1 hS1 hk
        cases e with
        | n => exact hQ _ _ _ _ _ he hS'
        | x id => exact hQ _ _ _ _ _ he hS'
        | r => exact hQ _ _ _ _ _ he hS'
        | g l' =>
          obtain ⟨n', hlt, hn⟩ := he
          exact ⟨n', hlt, s', m', hS', hn⟩
  | .seq y z, hs, hs', C, ht => by
    intro K Q hQ s a w m hS hK
    simp only [tr] at ht
    split at ht <;> try cases ht
    rename_i a' hs1 h1
    split at ht <;> simp only [Option.some.injEq, Prod.mk.injEq, reduceCtorEq] at ht
    rename_i b' hs2 h2
    obtain ⟨rfl, rfl⟩ := ht
    rw [W_seq] at hK
    refine wp_seq (W_sound E y _ _ _ h1 _ _ (fun e s' a' w' m' he hS' => ?_) s a w m hS hK)
    cases e with
    | n => exact W_sound E z _ _ _ h2 K Q hQ s' a' w' m' hS' he
    | x id => exact hQ _ _ _ _ _ he hS'
    | r => exact hQ _ _ _ _ _ he hS'
    | g l => exact hQ _ _ _ _ _ he hS'
  | .skip, hs, hs', C, ht => W_sound0 E _ hs hs' C (by simpa only [tr] using ht)
  | .region .., hs, hs', C, ht => W_sound0 E _ hs hs' C (by simpa only [tr] using ht)
  | .cond .., hs, hs', C, ht => W_sound0 E _ hs hs' C (by simpa only [tr] using ht)
  | .loop .., hs, hs', C, ht => W_sound0 E _ hs hs' C (by simpa only [tr] using ht)
  | .block .., hs, hs', C, ht => W_sound0 E _ hs hs' C (by simpa only [tr] using ht)
  | .exit .., hs, hs', C, ht => W_sound0 E _ hs hs' C (by simpa only [tr] using ht)
  | .ret, hs, hs', C, ht => W_sound0 E _ hs hs' C (by simpa only [tr] using ht)
  | .label .., hs, hs', C, ht => W_sound0 E _ hs hs' C (by simpa only [tr] using ht)
  | .goto .., hs, hs', C, ht => W_sound0 E _ hs hs' C (by simpa only [tr] using ht)
end
end Go.Proofs.Ytadnjellfiafaaa.Pm
