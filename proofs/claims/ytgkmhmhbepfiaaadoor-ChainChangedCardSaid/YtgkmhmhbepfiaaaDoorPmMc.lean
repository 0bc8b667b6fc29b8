/- Texts of this proof in one file: PmU, PmV, PmW, PmX, PmY, PmYu, PmFin, PmFc. No law of Go's is stated here. -/
import Derived.Test.YtgkmhmhbepfiaaaDoorPmMb
import Derived.ScopeJumps
import Derived.ProofKit
import Derived.OpenShut
import Derived.Carry
import Derived.SizedLaws
import Derived.ChangeCalls
import Derived.LaidMore
import Derived.Handed
import Derived.LaidLaws
set_option linter.all false
namespace Go.Proofs.YtgkmhmhbepfiaaaDoor.Pm
open Go Go.RowKit
section
variable {P : Program} {w w' : World} {c : Ct} {m m' m1 : Mp} {h h' h1 : H} {ti : Nat → Option TI} {tm : Tm} {a : Act}
def below1 (k : Nat) : AV → Bool
  | .row id .. | .vs id .. | .ptr id .. | .eptr id .. => decide (id < k)
  | .t .. | .nl | .e0 => true
  | _ => false
structure Nar (k : Nat) (h h' : H) : Prop where
  row : ∀ id v z es l, id < k → (h' id = some (.row v z es l) ↔ h id = some (.row v z es l))
  known : ∀ id, id < k → (h id).isSome = true → (h' id).isSome = true
theorem Nar.rowOf {k : Nat} (hN : Nar k h h') {id ver : Nat} (hid : id < k) {r : Nat × List (List T) × Bool} (hr : rowOf h' id ver = some r) : rowOf h id ver = some r := by
  obtain ⟨z, es, l⟩ := r
  have := (hN.row id ver z es l hid).1 (rowOf_some hr)
  simp [Pm.rowOf, this]
theorem vr_nar {B k : Nat} (hN : Nar k h h') {v : Value} {x : AV} (hx : below k x = true) (hv : VR m B h w v x) : VR m B h' w v x := by
  have one : ∀ {v : Value} {x : AV}, below1 k x = true → VR m B h w v x → VR m B h' w v x := by
    intro v x hx hv
    cases hv <;> simp only [below1, decide_eq_true_eq, Bool.false_eq_true] at hx
    case t y l hr => exact .t _ _ _ hr
    case nl => exact .nl
    case e0 A => exact .e0 A
    case row id ver off len cc A hid hver hc hr => exact .row id ver off len cc A (hN.known _ hx hid) (fun v' z es l hh => hver v' z es l ((hN.row _ _ _ _ _ hx).1 hh)) hc fun z es l hrow => hr z es l (hN.rowOf hx hrow)
    case vs id off len z cc A hid hc hA => exact .vs id off len z cc A (hN.known _ hx hid) hc hA
    case ptr id off hid => exact .ptr id off (hN.known _ hx hid)
    case eptr id ver i j a hid hver hr => exact .eptr id ver i j a (hN.known _ hx hid) (fun v' z es l hh => hver v' z es l ((hN.row _ _ _ _ _ hx).1 hh)) fun z es l hrow => hr z es l (hN.rowOf hx hrow)
  have flat : ∀ (y : AV), (match y with | .row id .. | .vs id .. | .ptr id .. | .eptr id .. => decide (id < k) | .t .. | .nl | .e0 => true | _ => false) = true → below1 k y = true := fun y hy => by cases y <;> first | exact hy | rfl
  cases x
  case agg cs =>
    simp only [below, List.all_eq_true] at hx
    cases hv with
    | agg vs _ hs hvv => exact .agg vs cs hs fun j u y hu hy => one (flat y (hx y (List.mem_of_getElem? hy))) (hvv j u y hu hy)
  case fn f cs =>
    simp only [below, List.all_eq_true] at hx
    cases hv with
    | fn _ vs _ hs hvv => exact .fn f vs cs hs fun j u y hu hy => one (flat y (hx y (List.mem_of_getElem? hy))) (hvv j u y hu hy)
  case tup => exact (Bool.false_ne_true hx).elim
  all_goals exact one hx hv
theorem restr_get {tm : Tm} : ∀ (ts : List Nat) (t : Nat) (v : AV), restr tm ts t = some v → tm t = some v
  | [], t, v, h => by cases h
  | a :: ts, t, v, h => by
    simp only [restr, up] at h
    split at h
    · rename_i e; subst e; exact h
    · exact restr_get ts t v h
theorem restrB_get {k : Nat} {h : H} {tm : Tm} : ∀ (ts : List Nat) (t : Nat) (v : AV), restrB k h tm ts t = some v → ∃ u, tm t = some u ∧ v = toT k h u ∧ below k v = true
  | [], t, v, hh => by cases hh
  | a :: ts, t, v, hh => by
    simp only [restrB, up] at hh
    split at hh
    · rename_i e
      subst e
      unfold belowO at hh
      split at hh
      · rename_i u hu
        unfold belowV at hh
        split at hh
        · simp only [Option.some.injEq] at hh
          subst hh
          exact ⟨u, hu, rfl, by assumption⟩
        · cases hh
      · cases hh
    · exact restrB_get ts t v hh
theorem lk_cut (hp : List Blk) (k : Nat) (h : H) (id : Nat) : lk ((hp.take k).map (cutB k h)) id = if id < k then (lk hp id).map (cutB k h) else none := by
  unfold lk
  rw [List.getElem?_map]
  by_cases h1 : id < k
  · rw [List.getElem?_take_of_lt h1, if_pos h1]
  · rw [if_neg h1, List.getElem?_eq_none (by simp; omega)]
    rfl
theorem toT1_vr (hM : Mem c m h w) {st' : Nat → Prop} {k : Nat} (he : Ext m h w { m with st := st' } h' w) (hst2 : ∀ id, k ≤ id → ∀ ver z es l, h id = some (.row ver z es l) → 0 < (m.ψ id).2 → st' (m.ψ id).1) {rv : Value} {v : AV} (hv : VR m c.B h w rv v) :
    VR { m with st := st' } c.B h' w rv (toT1 k h v) := by
  unfold toT1
  split
  · exact hv.mono he
  · rename_i hb
    split
    · rename_i x l us hemb
      cases v <;> simp only [emb, Option.some.injEq, Prod.mk.injEq, reduceCtorEq] at hemb
      case t y l' => simp [below] at hb
      case nl => simp [below] at hb
      case e0 => simp [below] at hb
      case row id ver off len =>
        simp only [below, decide_eq_false_iff_not, Nat.not_lt] at hb
        split at hemb <;> try cases hemb
        rename_i z es l' hr
        split at hemb <;> simp only [Option.some.injEq, Prod.mk.injEq, reduceCtorEq] at hemb
        rename_i hl
        obtain ⟨rfl, rfl, rfl⟩ := hemb
        refine .t _ _ _ ((row_rep hM hv hr hl).mono (fun b hb' => ⟨?_, hb'.2⟩) (fun _ _ => rfl))
        rcases hb'.1 with h1 | ⟨h1, rfl⟩
        · exact he.st _ h1
        · exact hst2 id hb _ _ _ _ (rowOf_some hr) h1
    · exact hv.mono he
theorem toT_vr (hM : Mem c m h w) {st' : Nat → Prop} {k : Nat} (he : Ext m h w { m with st := st' } h' w) (hst2 : ∀ id, k ≤ id → ∀ ver z es l, h id = some (.row ver z es l) → 0 < (m.ψ id).2 → st' (m.ψ id).1) {rv : Value} {v : AV} (hv : VR m c.B h w rv v) :
    VR { m with st := st' } c.B h' w rv (toT k h v) := by
  cases v
  case agg cs =>
    simp only [toT]
    cases hv with
    | agg vs _ hs hvv =>
      refine .agg vs _ (by simpa using hs) fun j u x hu hx => ?_
      rw [List.getElem?_map] at hx
      simp only [Option.map_eq_some_iff] at hx
      obtain ⟨y, hy, rfl⟩ := hx
      exact toT1_vr hM he hst2 (hvv j u y hu hy)
  all_goals exact toT1_vr hM he hst2 hv
theorem cut_sound {s : S} {mk : List Nat} {k : Nat} (hS : Sat c m (lk s.hp) s.tm a w) : ∃ m', Sat c m' (lk (cut mk k s).hp) (cut mk k s).tm a w := by
  let ids : List Nat := (List.range s.hp.length).filter fun i => decide (k ≤ i) && (match lk s.hp i with | some (.row ..) => true | _ => false)
  have hids : ∀ i ∈ ids, k ≤ i ∧ ∃ ver z es l, lk s.hp i = some (.row ver z es l) := fun i hi => by
    simp only [ids, List.mem_filter, Bool.and_eq_true, decide_eq_true_eq] at hi
    refine ⟨hi.2.1, ?_⟩
    have h2 := hi.2.2
    split at h2
    · exact ⟨_, _, _, _, by assumption⟩
    · cases h2
  have hids2 : ∀ id, k ≤ id → ∀ ver z es l, lk s.hp id = some (.row ver z es l) → id ∈ ids := fun id hid ver z es l hh => by
    simp only [ids, List.mem_filter, List.mem_range, Bool.and_eq_true, decide_eq_true_eq]
    exact ⟨lk_lt hh, hid, by rw [hh]⟩
  obtain ⟨st', e1, M1, hst1, hst2⟩ := goesAll ids hS.mem (fun id hid => .inl (hids id hid).2)
  have hst3 : ∀ id, k ≤ id → ∀ ver z es l, lk s.hp id = some (.row ver z es l) → 0 < (m.ψ id).2 → st' (m.ψ id).1 := fun id hid ver z es l hh hpos => hst2 id (hids2 id hid _ _ _ _ hh) _ _ _ _ hh hpos
  have hlow : ∀ id, id < k → uH (lk s.hp) (ids.map fun i => (i, Blk.gone)) id = lk s.hp id := fun id hid => uH_ne _ _ fun u hu e => by
    simp only [List.mem_map] at hu
    obtain ⟨i, hi, rfl⟩ := hu
    simp only at e
    subst e
    have := (hids i hi).1
    omega
  have hlk : lk (cut mk k s).hp = fun id => if id < k then (lk s.hp id).map (cutB k (lk s.hp)) else none := funext fun id => lk_cut s.hp k _ id
  have hrow : ∀ (b : Blk) (v z : Nat) (es : List (List T)) (l : Bool), cutB k (lk s.hp) b = .row v z es l ↔ b = .row v z es l := fun b v z es l => by
    cases b <;> simp [cutB]
    unfold varB
    split <;> simp
  have hN : Nar k (uH (lk s.hp) (ids.map fun i => (i, Blk.gone))) (lk (cut mk k s).hp) := by
    rw [hlk]
    refine ⟨fun id v z es l hid => ?_, fun id hid hh => ?_⟩
    · simp only [if_pos hid, Option.map_eq_some_iff, hrow, hlow id hid]
      exact ⟨fun ⟨b, h1, h2⟩ => by rw [h1, h2], fun h1 => ⟨_, h1, rfl⟩⟩
    · rw [hlow id hid] at hh
      simp only [if_pos hid]
      obtain ⟨b, hb⟩ := Option.isSome_iff_exists.1 hh
      rw [hb]; rfl
  have hpl : ∀ i g, place { m with st := st' } (lk (cut mk k s).hp) i = some g → place { m with st := st' } (uH (lk s.hp) (ids.map fun i => (i, Blk.gone))) i = some g := fun i g hg => by
    unfold place at hg ⊢
    rw [hlk] at hg
    simp only at hg
    by_cases hi : i < k
    · rw [if_pos hi] at hg
      rw [hlow i hi]
      cases hb : lk s.hp i with
      | none => rw [hb] at hg; simp at hg
      | some b =>
        rw [hb] at hg
        simp only [Option.map_some] at hg
        cases b
        · simp only [cutB] at hg
          unfold varB at hg
          split at hg
          · exact hg
          · simp [placeB] at hg
        · exact hg
        · exact hg
    · rw [if_neg hi] at hg; simp at hg
  refine ⟨{ m with st := st' }, ⟨M1.below, M1.kept, fun i b hi => ?_, fun i j g hi hj => M1.sep i j g (hpl i g hi) (hpl j g hj), M1.stlt, M1.stin, M1.soft, fun b hb => ⟨(M1.res b hb).1, (M1.res b hb).2.1, fun i hi => (M1.res b hb).2.2.1 i (hpl i b hi), (M1.res b hb).2.2.2⟩⟩, hS.defers, hS.size, fun t v ht => ?_⟩
  · have hi' := hi
    rw [hlk] at hi'
    simp only at hi'
    by_cases hik : i < k
    · rw [if_pos hik] at hi'
      simp only [Option.map_eq_some_iff] at hi'
      obtain ⟨b0, hb0, rfl⟩ := hi'
      have hb := M1.blk i b0 (by rw [hlow i hik]; exact hb0)
      have hb1 := hS.mem.blk i b0 hb0
      cases b0 with
      | var cs =>
        simp only [cutB]
        unfold varB
        split
        · rename_i hall
          rw [List.all_eq_true] at hall
          obtain ⟨b1, b2, _⟩ := hb
          obtain ⟨_, _, rcs, tt, b3, b4, b5⟩ := hb1
          refine ⟨b1, b2, rcs, tt, b3, by simpa using b4, fun j v x hv hx => vr_nar hN (hall x (List.mem_of_getElem? hx)) ?_⟩
          rw [List.getElem?_map] at hx
          simp only [Option.map_eq_some_iff] at hx
          obtain ⟨y, hy, rfl⟩ := hx
          exact toT1_vr hS.mem e1 hst3 (b5 j v y hv hy)
        · exact trivial
      | row v z es l => exact hb
      | gone => exact trivial
    · rw [if_neg hik] at hi'; cases hi'
  · obtain ⟨u, h1, rfl, h2⟩ := restrB_get mk t v ht
    exact ⟨(hS.tmps t u h1).1, vr_nar hN h2 (toT_vr hS.mem e1 hst3 (hS.tmps t u h1).2)⟩
theorem lk_push (hp : List Blk) (b : Blk) : lk (hp ++ [b]) = setH (lk hp) hp.length b := by
  have := lk_upds [(hp.length, b)] hp ⟨Nat.le_refl _, trivial⟩
  simp only [upds, upd1, Nat.lt_irrefl, if_false] at this
  exact this
theorem adoptC_sound {s : S} {m : Mp} (hS : Sat c m (lk s.hp) s.tm a w) (id o z : Nat) : ∃ m', Sat c m' (lk (adoptC s.hp id o z (cellOf s.hp id o))) s.tm a w := by
  unfold adoptC
  split
  · rename_i cs hc hid
    have hco : cs[o]? = some .nl := by
      simp only [cellOf, hid] at hc
      exact hc
    have hlt : id < s.hp.length := lk_lt hid
    have G := hS.mem.add (lk_none s.hp) (.row 0 z [] true) 0 (0, 0) (fun g hg => by simp [placeB, setF] at hg) (fun he => ⟨by simp [setF], by simp, by simp, fun h0 => by simp [setF] at h0⟩)
    have hid2 : setH (lk s.hp) s.hp.length (.row 0 z [] true) id = some (.var cs) := by
      rw [show setH (lk s.hp) s.hp.length (.row 0 z [] true) id = lk s.hp id by simp [setH]; omega]
      exact hid
    have R := G.2.rewrite (b' := .var (cs.set o (.row s.hp.length 0 0 0))) hid2 rfl rfl (fun _ _ _ _ e => by cases e) (w' := w) ⟨rfl, rfl, rfl, Nat.le_refl _, fun _ _ _ => rfl⟩ fun he => by
      obtain ⟨b1, b2, rcs, tt, b3, b4, b5⟩ := G.2.blk _ _ hid2
      refine ⟨b1, b2, rcs, tt, b3, by simpa using b4, fun j u x hu hx => ?_⟩
      by_cases hj : j = o
      · subst hj
        rw [List.getElem?_set_self (List.getElem?_eq_some_iff.1 hco).1] at hx
        simp only [Option.some.injEq] at hx
        subst hx
        have hv := b5 j u .nl hu hco
        cases hv
        refine .row _ 0 0 0 0 none (by simp [setH, show s.hp.length ≠ id by omega]) (fun _ _ _ _ _ => Nat.zero_le _) (Nat.le_refl _) fun z es l hr => ⟨by simp, by simp⟩
      · rw [List.getElem?_set_ne (by omega)] at hx
        exact (b5 j u x hu hx).mono he
    have hS0 := Sat.of_mem (w := w) (w' := w) hS G.1 G.2
    have hS1 := Sat.of_mem (w := w) (w' := w) hS0 R.1 R.2
    have e : lk (s.hp.set id (.var (cs.set o (.row s.hp.length 0 0 0))) ++ [.row 0 z [] true]) = setH (setH (lk s.hp) s.hp.length (.row 0 z [] true)) id (.var (cs.set o (.row s.hp.length 0 0 0))) := by
      rw [lk_push, lk_set hid]
      funext i
      simp only [setH, List.length_set]
      by_cases h1 : i = s.hp.length
      · rw [if_pos h1, if_neg (by omega), if_pos h1]
      · rw [if_neg h1]
        by_cases h2 : i = id
        · rw [if_pos h2, if_pos h2]
        · rw [if_neg h2, if_neg h2, if_neg h1]
    rw [e]
    exact ⟨_, hS1⟩
  · exact ⟨m, hS⟩
theorem adopt_sound : ∀ (ad : List (Nat × Nat)) {s : S} {m : Mp}, Sat c m (lk s.hp) s.tm a w → ∃ m', Sat c m' (lk (adopt ad s).hp) (adopt ad s).tm a w
  | [], s, m, hS => ⟨m, hS⟩
  | (t, z) :: r, s, m, hS => by
    simp only [adopt]
    split
    · rename_i ht
      obtain ⟨rv, hrv, hvr⟩ := tmps_get hS ht
      by_cases hz : z = 0
      · rw [if_pos hz]
        refine adopt_sound r (s := ⟨up s.tm t (some (.t (.sl []) true)), s.hp⟩) ⟨hS.mem, hS.defers, hS.size, fun t' v hv => ?_⟩
        by_cases e : t' = t
        · subst e
          simp only [up, if_true, Option.some.injEq] at hv
          subst hv
          have : a.tmps.getD t' undef = rv := by simp [Array.getD_eq_getD_getElem?, hrv]
          refine ⟨(Array.getElem?_eq_some_iff.1 hrv).1, ?_⟩
          rw [this]
          cases hvr
          exact .t _ _ _ (Rep.nilslice _)
        · simp only [up, if_neg e] at hv
          exact hS.tmps t' v hv
      rw [if_neg hz]
      have G := hS.mem.add (lk_none s.hp) (.row 0 z [] true) 0 (0, 0) (fun g hg => by simp [placeB, setF] at hg) (fun he => ⟨by simp [setF], by simp, by simp, fun h0 => by simp [setF] at h0⟩)
      rw [← lk_push] at G
      have hS1 := hS.of_mem G.1 G.2
      refine adopt_sound r (s := ⟨up s.tm t (some (.row s.hp.length 0 0 0)), s.hp ++ [.row 0 z [] true]⟩) ⟨hS1.mem, hS1.defers, hS1.size, fun t' v hv => ?_⟩
      by_cases e : t' = t
      · subst e
        simp only [up, if_true, Option.some.injEq] at hv
        subst hv
        have : a.tmps.getD t' undef = rv := by simp [Array.getD_eq_getD_getElem?, hrv]
        refine ⟨(Array.getElem?_eq_some_iff.1 hrv).1, ?_⟩
        rw [this]
        cases hvr
        refine .row _ 0 0 0 0 none (by simp [lk]) (fun _ _ _ _ _ => Nat.zero_le _) (Nat.le_refl _) fun z es l hr => ⟨by simp, by simp⟩
      · simp only [up, if_neg e] at hv
        exact hS1.tmps t' v hv
    · rename_i id off _
      obtain ⟨m', hS'⟩ := adoptC_sound hS id (off + z / 1000000 - 1) (z % 1000000)
      exact adopt_sound r (s := ⟨s.tm, adoptC s.hp id (off + z / 1000000 - 1) (z % 1000000) (cellOf s.hp id (off + z / 1000000 - 1))⟩) hS'
    · exact adopt_sound r hS
theorem Mem.moved (hM : Mem c m h w) {r v0 z0 : Nat} {es0 : List (List T)} {l0 : Bool} (hr : h r = some (.row v0 z0 es0 l0)) {id ver z : Nat} {es : List (List T)} {l : Bool} (hid : h id = some (.row ver z es l)) (hne : r ≠ id) :
    Ext m h w { m with ψ := setF m.ψ r (m.ψ id) } (setH (setH h id .gone) r (.row (v0 + 1) z es l)) w ∧ Mem c { m with ψ := setF m.ψ r (m.ψ id) } (setH (setH h id .gone) r (.row (v0 + 1) z es l)) w := by
  have hr' : setH (setH h id .gone) r (.row (v0 + 1) z es l) r = some (.row (v0 + 1) z es l) := by simp [setH]
  have hid' : setH (setH h id .gone) r (.row (v0 + 1) z es l) id = some .gone := by simp [setH, Ne.symm hne]
  have ho : ∀ i, i ≠ r → i ≠ id → setH (setH h id .gone) r (.row (v0 + 1) z es l) i = h i := fun i h1 h2 => by simp [setH, h1, h2]
  have he : Ext m h w { m with ψ := setF m.ψ r (m.ψ id) } (setH (setH h id .gone) r (.row (v0 + 1) z es l)) w := by
    refine ⟨fun i hi => ?_, fun _ _ => rfl, fun i v' z' es' l' hi hh => ?_, fun i ver' z' es' l' hi hv hh => ?_, fun _ h => h, fun _ _ => rfl⟩
    · by_cases e1 : i = r
      · subst e1; rw [hr']; rfl
      · by_cases e2 : i = id
        · subst e2; rw [hid']; rfl
        · rw [ho i e1 e2]; exact hi
    · by_cases e1 : i = r
      · subst e1
        rw [hr'] at hh
        simp only [Option.some.injEq, Blk.row.injEq] at hh
        exact ⟨v0, z0, es0, l0, hr, by omega⟩
      · by_cases e2 : i = id
        · subst e2; rw [hid'] at hh; cases hh
        · rw [ho i e1 e2] at hh
          exact ⟨v', z', es', l', hh, Nat.le_refl _⟩
    · have hh' := rowOf_some hh
      by_cases e1 : i = r
      · subst e1
        rw [hr'] at hh'
        simp only [Option.some.injEq, Blk.row.injEq] at hh'
        have := hv _ _ _ _ hr
        omega
      · by_cases e2 : i = id
        · subst e2; rw [hid'] at hh'; cases hh'
        · rw [ho i e1 e2] at hh'
          exact ⟨⟨es', l', by simp [rowOf, hh']⟩, by simp [setF, e1]⟩
  have hplr : place { m with ψ := setF m.ψ r (m.ψ id) } (setH (setH h id .gone) r (.row (v0 + 1) z es l)) r = place m h id := by
    simp [place, hr', hid, placeB, setF]
  have hpli : place { m with ψ := setF m.ψ r (m.ψ id) } (setH (setH h id .gone) r (.row (v0 + 1) z es l)) id = none := by simp [place, hid', placeB]
  have hpl : ∀ i, i ≠ r → i ≠ id → place { m with ψ := setF m.ψ r (m.ψ id) } (setH (setH h id .gone) r (.row (v0 + 1) z es l)) i = place m h i := fun i h1 h2 => by
    unfold place
    rw [ho i h1 h2]
    cases h i with
    | none => rfl
    | some b => cases b <;> simp [placeB, setF, h1]
  refine ⟨he, ⟨hM.below, he.kept hM.kept, fun i b hi => ?_, fun i j g hi hj => ?_, hM.stlt, hM.stin, hM.soft, fun b hb => ⟨(hM.res b hb).1, (hM.res b hb).2.1, fun i hi => ?_, (hM.res b hb).2.2.2⟩⟩⟩
  · by_cases e1 : i = r
    · subst e1
      rw [hr'] at hi
      simp only [Option.some.injEq] at hi
      subst hi
      obtain ⟨a1, a2, a3, a4⟩ := hM.blk _ _ hid
      have e : setF m.ψ i (m.ψ id) i = m.ψ id := by simp [setF]
      exact ⟨by simp only [e]; exact a1, a2, a3, by simp only [e]; exact a4⟩
    · by_cases e2 : i = id
      · subst e2
        rw [hid'] at hi
        simp only [Option.some.injEq] at hi
        subst hi
        trivial
      · rw [ho i e1 e2] at hi
        exact (hM.blk i b hi).keep he rfl (by simp [setF, e1]) fun g hg => ⟨(hM.placed hi hg).2.2, rfl⟩
  · have key : ∀ i g, place { m with ψ := setF m.ψ r (m.ψ id) } (setH (setH h id .gone) r (.row (v0 + 1) z es l)) i = some g → (i = r ∧ place m h id = some g) ∨ (i ≠ r ∧ i ≠ id ∧ place m h i = some g) := fun i g hi => by
      by_cases e1 : i = r
      · subst e1; rw [hplr] at hi; exact .inl ⟨rfl, hi⟩
      · by_cases e2 : i = id
        · subst e2; rw [hpli] at hi; cases hi
        · rw [hpl i e1 e2] at hi; exact .inr ⟨e1, e2, hi⟩
    rcases key i g hi with ⟨rfl, h1⟩ | ⟨h0, h0', h1⟩ <;> rcases key j g hj with ⟨rfl, h2⟩ | ⟨h3, h3', h2⟩
    · rfl
    · exact (h3' (hM.sep j id g h2 h1)).elim
    · exact (h0' (hM.sep i id g h1 h2)).elim
    · exact hM.sep i j g h1 h2
  · by_cases e1 : i = r
    · subst e1; rw [hplr] at hi; exact (hM.res b hb).2.2.1 id hi
    · by_cases e2 : i = id
      · subst e2; rw [hpli] at hi; cases hi
      · rw [hpl i e1 e2] at hi; exact (hM.res b hb).2.2.1 i hi
theorem lk_set2 {hp : List Blk} {i : Nat} {b : Blk} (hi : (lk hp i).isSome = true) : lk (hp.set i b) = setH (lk hp) i b := by
  obtain ⟨b0, hb0⟩ := Option.isSome_iff_exists.1 hi
  have hlt := lk_lt hb0
  funext j
  by_cases e : j = i
  · subst e; simp [lk, setH, hlt]
  · simp [lk, setH, e, Ne.symm e]
theorem mv1_sound {M t r : Nat} {s : S} (hS : Sat c m (lk s.hp) s.tm a w) : ∃ m', Sat c m' (lk (mv1 M t r s).hp) (mv1 M t r s).tm a w := by
  unfold mv1
  split
  · rename_i id ver off len hv
    split
    · exact ⟨m, hS⟩
    · rename_i hc
      unfold mv2
      split
      · rename_i z es l v0 z0 es0 l0 hrow hr0
        have hid := rowOf_some hrow
        have hne : r ≠ id := by omega
        have hoff : off = 0 := by omega
        subst hoff
        have hlk : lk ((s.hp.set id .gone).set r (.row (v0 + 1) z es l)) = setH (setH (lk s.hp) id .gone) r (.row (v0 + 1) z es l) := by
          rw [lk_set2, lk_set2 (by rw [hid]; rfl)]
          rw [lk_set2 (by rw [hid]; rfl)]
          simp [setH, hne, hr0]
        obtain ⟨e1, M1⟩ := hS.mem.moved hr0 hid hne
        have hS1 := hS.of_mem e1 M1
        rw [hlk]
        refine ⟨_, hS1.mem, hS1.defers, hS1.size, fun t' v ht => ?_⟩
        by_cases e : t' = t
        · subst e
          simp only [up, if_true, Option.some.injEq] at ht
          subst ht
          obtain ⟨hlt, hvr⟩ := hS.tmps t' _ (gt_some hv)
          refine ⟨hlt, ?_⟩
          generalize a.tmps.getD t' undef = rv at hvr
          cases hvr with
          | row _ _ _ _ cap A hid' hver hcap hra =>
            obtain ⟨a1, a2⟩ := hra _ _ _ hrow
            refine .row r (v0 + 1) 0 len cap A (by simp [setH]) (fun v' z' es' l' hh => ?_) hcap fun z' es' l' hh => ?_
            · simp [setH] at hh; omega
            · simp [rowOf, setH] at hh
              obtain ⟨rfl, rfl, rfl⟩ := hh
              simp only [setF, if_true]
              exact ⟨a1, a2⟩
        · simp only [up, if_neg e] at ht
          exact hS1.tmps t' v ht
      · exact ⟨m, hS⟩
  · exact ⟨m, hS⟩
theorem mvS_sound {M : Nat} : ∀ (l : List (Nat × Nat)) {s : S} {m : Mp}, Sat c m (lk s.hp) s.tm a w → ∃ m', Sat c m' (lk (mvS M l s).hp) (mvS M l s).tm a w
  | [], s, m, hS => ⟨m, hS⟩
  | (t, r) :: l, s, m, hS => by
    obtain ⟨m1, h1⟩ := mv1_sound (M := M) (t := t) (r := r) hS
    exact mvS_sound l h1
theorem hdL_sound {ad : List (Nat × Nat)} {mk : List Nat} {s0 s : S} (hS : Sat c m (lk s.hp) s.tm a w) : ∃ m', Sat c m' (lk (hdL ad mk s0 s).hp) (hdL ad mk s0 s).tm a w := by
  obtain ⟨m1, h1⟩ := mvS_sound (M := s0.hp.length) (mvs s0.tm ad) hS
  exact cut_sound h1
def Fair (x : Cx) (c : Ct) (cd : Code) (body : (Ex → S → Prop) → S → Prop) : Prop := ∀ (K : Ex → S → Prop) (Q : Exit → Act → World → Prop), Lets c K Q → ∀ s a w m, Sat c m (lk s.hp) s.tm a w → body K s → cd.wp c.P Q a w
theorem loop_sound {x : Cx} {cd : Code} {body : (Ex → S → Prop) → S → Prop} (hb : Fair x c cd body) {hd : S → S} (hhd : ∀ (s : S) (a : Act) (w : World) (m : Mp), Sat c m (lk s.hp) s.tm a w → ∃ m', Sat c m' (lk (hd s).hp) (hd s).tm a w) {K : Ex → S → Prop} {Q : Exit → Act → World → Prop} (hQ : Lets c K Q) {s : S} (hS : Sat c m (lk s.hp) s.tm a w) {lb : Lock body} {lK : Lock K} (hK : wloop hd body K s lb lK) : (Code.loop cd).wp c.P Q a w := by
  obtain ⟨n, hn⟩ := hK
  refine wp_loop_ghost (fun n a w => ∃ s m, Sat c m (lk s.hp) s.tm a w ∧ rounds hd body K n s) n ⟨s, m, hS, hn⟩ ?_
  rintro n a w ⟨s, m, hS, hr⟩
  cases n with
  | zero => exact hr.elim
  | succ n =>
    obtain ⟨m1, hS1⟩ := hhd s a w m hS
    refine hb _ _ (fun e s' a' w' m' he hS' => ?_) (hd s) a w m1 hS1 hr
    cases e with
    | n => exact ⟨n, Nat.lt_succ_self _, s', m', hS', he⟩
    | x id => exact hQ _ _ _ _ _ he hS'
    | r => exact hQ _ _ _ _ _ he hS'
    | g l => exact hQ _ _ _ _ _ he hS'
theorem W_sound0 {x : Cx} (E : Env x c) {fl : List Nat} : ∀ (cd : Code) (hs hs' : List Hint) (C : C), tr0 c.n fl cd hs = some (C, hs') → Fair x c cd (W x C) := by
  intro cd
  induction cd with
  | skip =>
    intro hs hs' C ht K Q hQ s a w m hS hK
    simp only [tr0, Option.some.injEq, Prod.mk.injEq] at ht
    obtain ⟨rfl, rfl⟩ := ht
    exact wp_skip (hQ _ _ _ _ _ hK hS)
  | label l =>
    intro hs hs' C ht K Q hQ s a w m hS hK
    simp only [tr0, Option.some.injEq, Prod.mk.injEq] at ht
    obtain ⟨rfl, rfl⟩ := ht
    exact wp_label (hQ _ _ _ _ _ hK hS)
  | region id ops dr =>
    intro hs hs' C ht K Q hQ s a w m hS hK
    have hfin : ∀ (ts : List Nat) (s' : S) (a' : Act) (w' : World) (m' : Mp), K .n ⟨restr s'.tm ts, s'.hp⟩ → Sat c m' (lk s'.hp) s'.tm a' w' → Q .normal a' w' := fun ts s' a' w' m' hk hS' =>
      hQ .n ⟨restr s'.tm ts, s'.hp⟩ a' w' m' hk ⟨hS'.mem, hS'.defers, hS'.size, fun t v ht => hS'.tmps t v (restr_get ts t v ht)⟩
    cases hs with
    | nil => cases dr <;> simp [tr0] at ht
    | cons hh hs =>
    cases dr with
    | false =>
      simp only [tr0, Option.map_eq_some_iff, Prod.mk.injEq] at ht
      obtain ⟨l, hl, rfl, rfl⟩ := ht
      refine wp_region ?_
      obtain ⟨had, hkp, hls⟩ := hh
      cases hls with
      | cons hk0 hls =>
        simp only [semOr] at hK
        rw [W_seq, W_sem] at hK
        simp only [W_keep] at hK
        have := E.hook _ _ _ _ hK ops m a w Q hl hS (fun s' a' w' m' hk hS' => hfin hkp s' a' w' m' hk hS')
        simpa [List.range_eq_range'] using this
      | nil =>
      simp only [semOr] at hK
      rw [W_seq, W_reg] at hK
      simp only [W_keep] at hK
      have := wops_sound E (ops := ops) (K := fun s' => K .n ⟨restr s'.tm hkp, s'.hp⟩) (Q := Q) (fun s' a' w' m' hk hS' => hfin hkp s' a' w' m' hk hS') ops.toList 0 l s m a w (by simp) hl hS hK
      simpa [List.range_eq_range'] using this
    | true =>
      simp only [tr0] at ht
      split at ht <;> try cases ht
      rename_i hok
      simp only [Option.map_eq_some_iff, Prod.mk.injEq] at ht
      obtain ⟨l, hl, rfl, rfl⟩ := ht
      rw [W_seq, W_draw] at hK
      simp only [W_keep] at hK
      exact draw_sound E E.mixed hok hl (K := fun s' => K .n ⟨restr s'.tm hh.kp, s'.hp⟩) (fun s' a' w' m' hk hS' => hfin hh.kp s' a' w' m' hk hS') hS hK
  | seq y z ihy ihz =>
    intro hs hs' C ht K Q hQ s a w m hS hK
    simp only [tr0] at ht
    split at ht <;> try cases ht
    rename_i a' hs1 h1
    split at ht <;> simp only [Option.some.injEq, Prod.mk.injEq, reduceCtorEq] at ht
    rename_i b' hs2 h2
    obtain ⟨rfl, rfl⟩ := ht
    refine wp_seq (ihy _ _ _ h1 _ _ (fun e s' a' w' m' he hS' => ?_) s a w m hS hK)
    cases e with
    | n => exact ihz _ _ _ h2 K Q hQ s' a' w' m' hS' he
    | x id => exact hQ _ _ _ _ _ he hS'
    | r => exact hQ _ _ _ _ _ he hS'
    | g l => exact hQ _ _ _ _ _ he hS'
  | cond cc y z ihy ihz =>
    intro hs hs' C ht K Q hQ s a w m hS hK
    simp only [tr0] at ht
    split at ht <;> try cases ht
    rename_i a' hs1 h1
    split at ht <;> simp only [Option.some.injEq, Prod.mk.injEq, reduceCtorEq] at ht
    rename_i b' hs2 h2
    obtain ⟨rfl, rfl⟩ := ht
    simp only [W] at hK
    split at hK <;> try exact hK.elim
    rename_i y l hy
    have hv := ev_vr hS hy
    generalize he : a.eval cc = rv at hv
    cases hv with
    | t _ _ _ hr =>
      cases hr
      exact wp_cond_split he (fun hb => ihy _ _ _ h1 K Q hQ s a w m hS (hK.1 hb)) (fun hb => ihz _ _ _ h2 K Q hQ s a w m hS (hK.2 hb))
  | block id y ih =>
    intro hs hs' C ht K Q hQ s a w m hS hK
    simp only [tr0] at ht
    split at ht <;> simp only [Option.some.injEq, Prod.mk.injEq, reduceCtorEq] at ht
    rename_i a' hs1 h1
    obtain ⟨rfl, rfl⟩ := ht
    refine wp_block (ih _ _ _ h1 _ _ (fun e s' a' w' m' he hS' => ?_) s a w m hS hK)
    cases e with
    | n => exact hQ _ _ _ _ _ he hS'
    | x j =>
      simp only at he
      show Exit.inBlock id Q (.exit j) a' w'
      simp only [Exit.inBlock]
      split
      · rename_i hj; rw [if_pos hj] at he; exact hQ .n _ _ _ _ he hS'
      · rename_i hj; rw [if_neg hj] at he; exact hQ (.x j) _ _ _ _ he hS'
    | r => exact hQ _ _ _ _ _ he hS'
    | g l => exact hQ _ _ _ _ _ he hS'
  | loop y ih =>
    intro hs hs' C ht K Q hQ s a w m hS hK
    cases hs with
    | nil => simp [tr0] at ht
    | cons hh hs =>
      simp only [tr0] at ht
      split at ht <;> simp only [Option.some.injEq, Prod.mk.injEq, reduceCtorEq] at ht
      rename_i a' hs1 h1
      obtain ⟨rfl, rfl⟩ := ht
      obtain ⟨had, hkp, hls⟩ := hh
      cases hls with
      | cons hk0 hls =>
        simp only [loopOr] at hK
        rw [W_lsem] at hK
        exact E.lhook _ _ _ _ _ _ hK y fl hs _ h1 Q hQ a w m hS
      | nil =>
      simp only [loopOr] at hK
      obtain ⟨m', hS'⟩ := adopt_sound had hS
      exact loop_sound (ih _ _ _ h1) (fun s a w m h => hdL_sound h) hQ hS' hK
  | exit id =>
    intro hs hs' C ht K Q hQ s a w m hS hK
    simp only [tr0, Option.some.injEq, Prod.mk.injEq] at ht
    obtain ⟨rfl, rfl⟩ := ht
    exact wp_exit (hQ _ _ _ _ _ hK hS)
  | ret =>
    intro hs hs' C ht K Q hQ s a w m hS hK
    simp only [tr0, Option.some.injEq, Prod.mk.injEq] at ht
    obtain ⟨rfl, rfl⟩ := ht
    exact wp_ret (hQ _ _ _ _ _ hK hS)
  | goto l =>
    intro hs hs' C ht K Q hQ s a w m hS hK
    simp only [tr0, Option.some.injEq, Prod.mk.injEq] at ht
    obtain ⟨rfl, rfl⟩ := ht
    exact wp_goto (hQ _ _ _ _ _ hK hS)
  | _ => intro hs hs' C ht; simp [tr0] at ht
theorem rest_get {x : Cx} {fl : List Nat} {cd : Code} : ∀ (ls : List Nat) (hs hs' : List Hint) (gs : List (Nat × C)), restOf (tr0 c.n fl) cd ls hs = some (gs, hs') → ∀ l b, Ws x gs l = some b → ∃ rest C h1 h2, findLabel cd l = some rest ∧ tr0 c.n fl rest h1 = some (C, h2) ∧ b = W x C
  | [], hs, hs', gs, h => by
    simp only [restOf, Option.some.injEq, Prod.mk.injEq] at h
    obtain ⟨rfl, rfl⟩ := h
    intro l b hb
    simp [Ws] at hb
  | l0 :: ls, hs, hs', gs, h => by
    simp only [restOf] at h
    split at h <;> try cases h
    rename_i rest hf
    split at h <;> try cases h
    rename_i c' hs1 ht
    split at h <;> simp only [Option.some.injEq, Prod.mk.injEq, reduceCtorEq] at h
    rename_i gs' hs2 hr
    obtain ⟨rfl, rfl⟩ := h
    intro l b hb
    simp only [Ws] at hb
    split at hb
    · rename_i e
      subst e
      simp only [Option.some.injEq] at hb
      exact ⟨rest, c', _, _, hf, ht, hb.symm⟩
    · exact rest_get ls hs1 _ gs' hr l b hb
def jumpJ (J : Nat → Act → World → Prop) (Q : Exit → Act → World → Prop) : Exit → Act → World → Prop
  | .goto l, a, w => J l a w
  | e, a, w => Q e a w
theorem wp_scope_all {Q : Exit → Act → World → Prop} {cd : Code} (J : Nat → Nat → Act → World → Prop) (first : cd.wp P (jumpJ (fun l a w => ∃ n, J l n a w) Q) a w)
    (pass : ∀ l n a w, J l n a w → ∃ rest, findLabel cd l = some rest ∧ rest.wp P (jumpJ (fun l' a' w' => ∃ n', n' < n ∧ J l' n' a' w') Q) a w) : (Code.scope cd).wp P Q a w := by
  intro b k cs
  have key : ∀ n l a w, J l n a w → ∃ rest, findLabel cd l = some rest ∧ ∃ e a' w', Q e a' w' ∧ Arrives P (lone (b.at a (.code rest :: .inScope cd :: k)) cs w) b k cs e a' w' := by
    intro n
    induction n using Nat.strongRecOn with
    | _ n ih =>
      intro l a w hJ
      obtain ⟨rest, hf, hp⟩ := pass l n a w hJ
      refine ⟨rest, hf, ?_⟩
      obtain ⟨e, a₁, w₁, hq, harr⟩ := hp b (.inScope cd :: k) cs
      cases e with
      | normal => exact ⟨.normal, a₁, w₁, hq, Steps.trans harr (.one step_inScope)⟩
      | exit id => exact ⟨.exit id, a₁, w₁, hq, fun k' hk => harr k' (by simp [exitTo, hk])⟩
      | goto l' =>
        obtain ⟨n', hlt, hJ'⟩ := hq
        obtain ⟨rest', hf', e₂, a₂, w₂, hq₂, harr₂⟩ := ih n' hlt l' a₁ w₁ hJ'
        exact ⟨e₂, a₂, w₂, hq₂, .of_steps (harr _ (by simp [gotoIn, hf'])) harr₂⟩
      | ret => exact ⟨_, a₁, w₁, hq, harr⟩
      | panic ch => exact ⟨_, a₁, w₁, hq, harr⟩
      | outgrown => exact ⟨_, a₁, w₁, hq, harr⟩
  obtain ⟨e, a₁, w₁, hq, harr⟩ := first b (.inScope cd :: k) cs
  cases e with
  | normal => exact ⟨.normal, a₁, w₁, hq, .head step_scope (Steps.trans harr (.one step_inScope))⟩
  | exit id => exact ⟨.exit id, a₁, w₁, hq, fun k' hk => .head step_scope (harr k' (by simp [exitTo, hk]))⟩
  | goto l' =>
    obtain ⟨n, hJ'⟩ := hq
    obtain ⟨rest', hf', e₂, a₂, w₂, hq₂, harr₂⟩ := key n l' a₁ w₁ hJ'
    exact ⟨e₂, a₂, w₂, hq₂, .of_steps (.head step_scope (harr _ (by simp [gotoIn, hf']))) harr₂⟩
  | ret => exact ⟨_, a₁, w₁, hq, .of_steps (.one step_scope) harr⟩
  | panic ch => exact ⟨_, a₁, w₁, hq, .of_steps (.one step_scope) harr⟩
  | outgrown => exact ⟨_, a₁, w₁, hq, .of_steps (.one step_scope) harr⟩
theorem W_sound {x : Cx} (E : Env x c) {fl : List Nat} : ∀ (cd : Code) (hs hs' : List Hint) (C : C), tr c.n fl cd hs = some (C, hs') → Fair x c cd (W x C)
  | .scope cd, hs, hs', C, ht => by
    intro K Q hQ s a w m hS hK
    cases hs with
    | nil => simp [tr, tr0] at ht
    | cons hh hs =>
      simp only [tr] at ht
      split at ht <;> try cases ht
      rename_i c' hs1 h1
      split at ht <;> simp only [Option.some.injEq, Prod.mk.injEq, reduceCtorEq] at ht
      rename_i gs hs2 h2
      obtain ⟨rfl, rfl⟩ := ht
      rw [W_scope] at hK
      obtain ⟨J, hJ1, hJ2⟩ := hK
      refine wp_scope_all (fun l n a w => ∃ s m, Sat c m (lk s.hp) s.tm a w ∧ J l n s) (W_sound0 E cd _ _ _ h1 _ _ (fun e s' a' w' m' he hS' => ?_) s a w m hS hJ1) ?_
      · cases e with
        | n => exact hQ _ _ _ _ _ he hS'
        | x id => exact hQ _ _ _ _ _ he hS'
        | r => exact hQ _ _ _ _ _ he hS'
        | g l =>
          obtain ⟨n, hn⟩ := he
          exact ⟨n, s', m', hS', hn⟩
      · rintro l n a w ⟨s, m, hS, hj⟩
        obtain ⟨k, hk⟩ := hJ2 l n s hj
        split at hk <;> try exact hk.elim
        rename_i b hb
        obtain ⟨rest, C', g1, g2, hf, htr, rfl⟩ := rest_get _ _ _ _ h2 l b hb
        refine ⟨rest, hf, ?_⟩
        obtain ⟨m', hS'⟩ := adopt_sound hh.ad hS
        obtain ⟨m1, hS1⟩ := cut_sound (mk := hh.kp) (k := k) hS'
        refine W_sound0 E rest _ _ _ htr _ _ (fun e s' a' w' m' he hS' => ?_) _ a w m1 hS1 hk
        cases e with
        | n => exact hQ _ _ _ _ _ he hS'
        | x id => exact hQ _ _ _ _ _ he hS'
        | r => exact hQ _ _ _ _ _ he hS'
        | g l' =>
          obtain ⟨n', hlt, hn⟩ := he
          exact ⟨n', hlt, s', m', hS', hn⟩
  | .seq y z, hs, hs', C, ht => by
    intro K Q hQ s a w m hS hK
    simp only [tr] at ht
    split at ht <;> try cases ht
    rename_i a' hs1 h1
    split at ht <;> simp only [Option.some.injEq, Prod.mk.injEq, reduceCtorEq] at ht
    rename_i b' hs2 h2
    obtain ⟨rfl, rfl⟩ := ht
    rw [W_seq] at hK
    refine wp_seq (W_sound E y _ _ _ h1 _ _ (fun e s' a' w' m' he hS' => ?_) s a w m hS hK)
    cases e with
    | n => exact W_sound E z _ _ _ h2 K Q hQ s' a' w' m' hS' he
    | x id => exact hQ _ _ _ _ _ he hS'
    | r => exact hQ _ _ _ _ _ he hS'
    | g l => exact hQ _ _ _ _ _ he hS'
  | .skip, hs, hs', C, ht => W_sound0 E _ hs hs' C (by simpa only [tr] using ht)
  | .region .., hs, hs', C, ht => W_sound0 E _ hs hs' C (by simpa only [tr] using ht)
  | .cond .., hs, hs', C, ht => W_sound0 E _ hs hs' C (by simpa only [tr] using ht)
  | .loop .., hs, hs', C, ht => W_sound0 E _ hs hs' C (by simpa only [tr] using ht)
  | .block .., hs, hs', C, ht => W_sound0 E _ hs hs' C (by simpa only [tr] using ht)
  | .exit .., hs, hs', C, ht => W_sound0 E _ hs hs' C (by simpa only [tr] using ht)
  | .ret, hs, hs', C, ht => W_sound0 E _ hs hs' C (by simpa only [tr] using ht)
  | .label .., hs, hs', C, ht => W_sound0 E _ hs hs' C (by simpa only [tr] using ht)
  | .goto .., hs, hs', C, ht => W_sound0 E _ hs hs' C (by simpa only [tr] using ht)
end
end Go.Proofs.YtgkmhmhbepfiaaaDoor.Pm
set_option linter.all false
namespace Go.Proofs.YtgkmhmhbepfiaaaDoor.Pm
open Go Go.RowKit
def arg0 : T → AV
  | .fn f cs => .fn f (cs.map (AV.t · false))
  | .i k n => .t (.i k n) true
  | .b x => .t (.b x) true
  | .s x => .t (.s x) true
  | .nl => .nl
  | x => .t x false
def s0 (ts : List T) (_ : Nat) : S := ⟨ofL (ts.map fun x => some (arg0 x)), []⟩
def resAV (ti : Nat → Option TI) (s : S) : List ResultVar → Option (Prop × List AV)
  | [] => some (True, [])
  | .tmp t :: r => match gt s.tm t, resAV ti s r with
    | some v, some (p, vs) => some (p, v :: vs)
    | _, _ => none
  | .cell a t :: r => match gt s.tm a with
    | some v => match qLoad ti (lk s.hp) t v, resAV ti s r with
      | some (p, u, _), some (p', vs) => some (p ∧ p', u :: vs)
      | _, _ => none
    | none => none
def sees (h : H) : List AV → List (T × Bool) → Prop
  | [], [] => True
  | v :: vs, (x, l) :: r => match emb2 h v with
    | some (y, l', _) => y = x ∧ (l = true → l' = true) ∧ sees h vs r
    | none => False
  | _, _ => False
def retT (ti : Nat → Option TI) (res : List ResultVar) (r : List (T × Bool)) (e : Ex) (s : S) : Prop :=
  match e with
  | .r | .n => match resAV ti s res with
    | some (p, vs) => p ∧ sees (lk s.hp) vs r
    | none => False
  | _ => False
def retR (ti : Nat → Option TI) (res : List ResultVar) (z : Nat) (es : List (List T)) (l : Bool) (e : Ex) (s : S) : Prop :=
  match e with
  | .r | .n => match resAV ti s res with
    | some (p, [.row id ver off len]) => p ∧ off = 0 ∧ len = es.length ∧ (match rowOf (lk s.hp) id ver with
      | some (z', es', l') => z' = z ∧ es' = es ∧ (l = true → l' = true)
      | none => False)
    | _ => False
  | _ => False
def AV.ofT (p : T × Bool) : AV := .t p.1 p.2
def resV : List AV → AV
  | [v] => v
  | vs => .tup vs
section
variable {P : Program} {w w' : World} {c : Ct} {m m' m1 : Mp} {h h' h1 : H} {ti : Nat → Option TI} {tm : Tm} {a : Act}
theorem arg0_vr {B : Nat} {v : Value} {x : T} (hr : Rep w m.st v x) : VR m B h w v (arg0 x) := by
  have hm : ∀ {v : Value} {x : T}, Rep w m.st v x → Rep w (m.ok B false) v x := fun hr => hr.mono (fun b hb => ⟨hb, fun e => by cases e⟩) (fun _ _ => rfl)
  cases x
  case fn f cs =>
    cases hr with
    | fn _ vs _ hs hh =>
      refine .fn f vs _ (by simpa using hs) fun j v x hv hx => ?_
      rw [List.getElem?_map] at hx
      simp only [Option.map_eq_some_iff] at hx
      obtain ⟨y, hy, rfl⟩ := hx
      exact .t _ _ _ (hm (hh j v y hv hy))
  case i k n => cases hr; exact .t _ _ _ (.i _ _)
  case b x => cases hr; exact .t _ _ _ (.b _)
  case s x => cases hr; exact .t _ _ _ (.s _)
  case nl => cases hr; exact .nl
  all_goals exact .t _ _ _ (hm hr)
theorem s0_sat (w : World) (B : Nat → Prop) (hB : ∀ b, B b → b < w.heap.size) (hG : GlobOK w B) {ts : List T} {args : Array Value} {n : Nat} (hl : args.size = ts.length) (hr : ∀ (j : Nat) (v : Value) (x : T), args[j]? = some v → ts[j]? = some x → Rep w B v x) :
    Sat ⟨P, w, B, n, w.heap.size, Nat.le_refl _, hG, fun _ => False, w⟩ ⟨fun _ => 0, fun _ => (0, 0), B⟩ (lk (s0 ts n).hp) (s0 ts n).tm { tmps := args ++ Array.replicate (n - args.size) undef, defers := [] } w := by
  refine ⟨⟨Below.refl _ _, fun b hb => ⟨hb, rfl⟩, fun id b hb => by simp [lk, s0] at hb, fun i j g hg => by simp [place, lk, s0] at hg, hB, fun b hb => .inl hb, fun b hb hle => absurd hb hle, fun b hb => hb.elim⟩, rfl, by simp; omega, fun t v ht => ?_⟩
  simp only [s0, ofL, List.getElem?_map] at ht
  rcases Nat.lt_or_ge t ts.length with h | h
  · rw [List.getElem?_eq_getElem h] at ht
    simp only [Option.map_some, Option.getD_some, Option.some.injEq] at ht
    subst ht
    have hlt : t < args.size := by omega
    have : (args ++ Array.replicate (n - args.size) undef).getD t undef = args[t] := by
      simp [Array.getD_eq_getD_getElem?, Array.getElem?_append_left hlt, hlt]
    refine ⟨by simp; omega, ?_⟩
    rw [this]
    exact arg0_vr (hr t _ _ (by simp [hlt]) (List.getElem?_eq_getElem h))
  · rw [List.getElem?_eq_none h] at ht
    simp at ht
def resOp (tmps : Array Value) : ResultVar → Sem Value
  | .tmp t => pure (tmps.getD t undef)
  | .cell a t => do loadVar t (← asAddr (tmps.getD a undef))
theorem results_eq (fn : Func) (tmps : Array Value) : results fn tmps = (do
    let vs ← fn.results.mapM (resOp tmps)
    pure (if h : vs.size = 1 then vs[0] else .tuple vs)) := by
  unfold results
  have : (fun (r : ResultVar) => (match r with
      | .tmp t => pure (tmps.getD t undef)
      | .cell a' t => do loadVar t (← asAddr (tmps.getD a' undef)) : Sem Value)) = resOp tmps := by
    funext r
    cases r <;> rfl
  rw [← this]
  rfl
theorem run_results1 (hP : TIok P ti) {s : S} (hS : Sat c m (lk s.hp) s.tm a w) : ∀ (res : List ResultVar) (p : Prop) (vs : List AV), resAV ti s res = some (p, vs) → p →
    ∃ rvs : List Value, (res.mapM (resOp a.tmps)).run P w = .ok rvs w ∧ rvs.length = vs.length ∧ ∀ (j : Nat) (v : Value) (x : AV), rvs[j]? = some v → vs[j]? = some x → VR m c.B (lk s.hp) w v x
  | [], p, vs, hr, hp => by
    simp only [resAV, Option.some.injEq, Prod.mk.injEq] at hr
    obtain ⟨_, rfl⟩ := hr
    exact ⟨[], rfl, rfl, by simp⟩
  | .tmp t :: r, p, vs, hr, hp => by
    simp only [resAV] at hr
    split at hr <;> simp only [Option.some.injEq, Prod.mk.injEq, reduceCtorEq] at hr
    rename_i v p' vs' hv hrec
    obtain ⟨rfl, rfl⟩ := hr
    obtain ⟨rvs, h1, h2, h3⟩ := run_results1 hP hS r _ _ hrec hp
    refine ⟨a.tmps.getD t undef :: rvs, ?_, by simp [h2], fun j u x hu hx => ?_⟩
    · simp only [List.mapM_cons, resOp, Sem.run_bind, Sem.run_pure, Result.andThen_ok, h1]
    · cases j with
      | zero => simp only [List.getElem?_cons_zero, Option.some.injEq] at hu hx; subst hu; subst hx; exact (hS.tmps t _ (gt_some hv)).2
      | succ j => exact h3 j u x (by simpa using hu) (by simpa using hx)
  | .cell a' t :: r, p, vs, hr, hp => by
    simp only [resAV] at hr
    split at hr <;> try cases hr
    rename_i v hv
    split at hr <;> simp only [Option.some.injEq, Prod.mk.injEq, reduceCtorEq] at hr
    rename_i p1 u us p' vs' hq hrec
    obtain ⟨rfl, rfl⟩ := hr
    obtain ⟨hp1, hp2⟩ := hp
    obtain ⟨rvs, h1, h2, h3⟩ := run_results1 hP hS r _ _ hrec hp2
    obtain ⟨_, rv, h4, h5⟩ := qLoad_sound (P := P) hP hS.mem (fun _ _ h => h) (hS.tmps a' v (gt_some hv)).2 hq hp1
    refine ⟨rv :: rvs, ?_, by simp [h2], fun j u x hu hx => ?_⟩
    · have hload : (do loadVar t (← asAddr (a.tmps.getD a' undef)) : Sem Value).run P w = .ok rv w := by
        rw [← h4]
        generalize a.tmps.getD a' undef = pv at h4 ⊢
        cases pv <;> simp [Instr.loadAt, Instr.sureAddr, stuck] at h4 ⊢
        rename_i ad
        cases ad <;> simp [asAddr, Instr.sureAddr, stuck] at h4 ⊢
      have hop : (resOp a.tmps (.cell a' t)).run P w = .ok rv w := hload
      simp only [List.mapM_cons, Sem.run_bind, Sem.run_pure, hop, Result.andThen_ok, h1]
    · cases j with
      | zero => simp at hu hx; subst hu; subst hx; exact h5
      | succ j => exact h3 j u x (by simpa using hu) (by simpa using hx)
def vOf : List Value → Value
  | [v] => v
  | vs => .tuple vs.toArray
theorem run_results (hP : TIok P ti) {s : S} (hS : Sat c m (lk s.hp) s.tm a w) (fn : Func) {p : Prop} {vs : List AV} (hr : resAV ti s fn.results.toList = some (p, vs)) (hp : p) :
    ∃ rvs : List Value, (results fn a.tmps).run P w = .ok (vOf rvs) w ∧ rvs.length = vs.length ∧ ∀ (j : Nat) (v : Value) (x : AV), rvs[j]? = some v → vs[j]? = some x → VR m c.B (lk s.hp) w v x := by
  obtain ⟨rvs, h1, h2, h3⟩ := run_results1 hP hS _ _ _ hr hp
  refine ⟨rvs, ?_, h2, h3⟩
  rw [results_eq, Array.mapM_eq_mapM_toList]
  simp only [Sem.run_bind, Sem.run_map, h1, Result.andThen_ok]
  match rvs with
  | [] => simp [vOf]
  | [v] => simp [vOf]
  | v :: u :: r => simp [vOf]
theorem emb2_rep (hM : Mem c m h w) {v : AV} {r : T × Bool × List (Nat × Blk)} (he : emb2 h v = some r) {rv : Value} (hv : VR m c.B h w rv v) :
    ∃ ids, r.2.2 = ids.map (fun i => (i, .gone)) ∧ (∀ id ∈ ids, ∃ ver z es l, h id = some (.row ver z es l)) ∧ Rep w (gok m c.B ids r.2.1) rv r.1 := by
  cases v
  case agg cs =>
    simp only [emb2] at he
    split at he <;> simp only [Option.some.injEq, reduceCtorEq] at he
    rename_i xs l us hes
    subst he
    cases hv with
    | agg vs _ hs hvv =>
      obtain ⟨ids, h1, h2, h3, h4⟩ := embs_rep hM hes (rvs := vs.toList) (by simpa using hs) (fun j v x hv hx => hvv j v x (by simpa using hv) hx)
      exact ⟨ids, h1, h2, .agg vs xs (by simp only at h3; omega) fun j v x hv hx => h4 j v x (by simpa using hv) hx⟩
  all_goals (simp only [emb2] at he; exact emb_rep hM he hv)
theorem sees_rep (hM : Mem c m h w) : ∀ {vs : List AV} {r : List (T × Bool)}, sees h vs r → ∀ {rvs : List Value}, rvs.length = vs.length → (∀ (j : Nat) (v : Value) (x : AV), rvs[j]? = some v → vs[j]? = some x → VR m c.B h w v x) →
    vs.length = r.length ∧ ∃ ids : List Nat, (∀ id ∈ ids, ∃ ver z es l, h id = some (.row ver z es l)) ∧ ∀ (j : Nat) (v : Value) (x : T × Bool), rvs[j]? = some v → r[j]? = some x → Rep w (gok m c.B ids x.2) v x.1
  | [], [], _, rvs, hl, hv => ⟨rfl, [], by simp, by simp⟩
  | v :: vs, (x, l) :: r, hs, rvs, hl, hv => by
    simp only [sees] at hs
    split at hs <;> try exact hs.elim
    rename_i y l' us he
    obtain ⟨rfl, h1, h2⟩ := hs
    match rvs, hl with
    | rv :: rvs, hl =>
      obtain ⟨g1, ids2, g2, g3⟩ := sees_rep hM h2 (rvs := rvs) (by simpa using hl) (fun j u z hu hz => hv (j + 1) u z (by simpa using hu) (by simpa using hz))
      obtain ⟨ids, e1, e2, e3⟩ := emb2_rep hM he (hv 0 rv v rfl rfl)
      refine ⟨by simp [g1], ids ++ ids2, fun i hi => ?_, fun j u z hu hz => ?_⟩
      · rcases List.mem_append.1 hi with hi | hi
        · exact e2 i hi
        · exact g2 i hi
      · cases j with
        | zero =>
          simp at hu hz
          subst hu; subst hz
          exact gok_mono (fun i hi => List.mem_append_left _ hi) h1 e3
        | succ j => exact gok_mono (fun i hi => List.mem_append_right _ hi) (fun e => e) (g3 j u z (by simpa using hu) (by simpa using hz))
  | [], _ :: _, hs, _, _, _ => by simp [sees] at hs
  | _ :: _, [], hs, _, _, _ => by simp [sees] at hs
theorem Mem.none (hM : Mem c m h w) : Mem ⟨c.P, c.w0, c.st, 0, c.B, c.hB, c.hG, c.R, c.wR⟩ m (lk []) w :=
  ⟨hM.below, hM.kept, fun id b hb => by simp [lk] at hb, fun i j g hg => by simp [place, lk] at hg, hM.stlt, hM.stin, hM.soft, fun b hb => ⟨(hM.res b hb).1, (hM.res b hb).2.1, fun i hi => by simp [place, lk] at hi, (hM.res b hb).2.2.2⟩⟩
theorem vr_ofT {B : Nat} {rvs : List Value} {r : List (T × Bool)} (hl : rvs.length = r.length) (hr : ∀ (j : Nat) (v : Value) (x : T × Bool), rvs[j]? = some v → r[j]? = some x → VR m B h w v (AV.ofT x)) : VR m B h w (vOf rvs) (resV (r.map AV.ofT)) := by
  have tup : VR m B h w (.tuple rvs.toArray) (.tup (r.map AV.ofT)) := .tup _ _ (by simpa using hl) fun j v x hv hx => by
    rw [List.getElem?_map] at hx
    simp only [Option.map_eq_some_iff] at hx
    obtain ⟨y, hy, rfl⟩ := hx
    exact hr j v y (by simpa using hv) hy
  match rvs, r, hl with
  | [], [], _ => exact tup
  | [v], [x], _ => exact hr 0 v x rfl rfl
  | v :: u :: rvs, x :: y :: r, _ => exact tup
theorem ok3_ofT (r : List (T × Bool)) : ok3 (resV (r.map AV.ofT)) = true := by
  have tup : ok3 (.tup (r.map AV.ofT)) = true := by simp [ok3, AV.ofT, ok2, ok1]
  match r with
  | [] => exact tup
  | [x] => rfl
  | x :: y :: r => exact tup
structure Hold (P : Program) (x : Cx) : Prop where
  ti : TIok P x.ti
  spec : ∀ g ts bs r, x.spec g ts bs r → Spec P g ts bs r
  ap : ∀ g xs ts ys, x.specAp g xs ts ys → SpecAp P g xs ts ys
  mixed : P.follows .mixedOrders = true
  hook : ∀ c : Ct, c.P = P → (∀ b, c.st b → b < c.B) → ∀ (n : Nat) (l : List I) (s : S) (K : S → Prop), x.hook n l s K → ∀ (ops : Array Oper) (m : Mp) (a : Act) (w : World) (Q : Exit → Act → World → Prop), trIs c.n ops.toList ops.toList = some l → Sat c m (lk s.hp) s.tm a w →
    (∀ s' a' w' m', K s' → Sat c m' (lk s'.hp) s'.tm a' w' → Q .normal a' w') → wpOps c.P ops Q (List.range' 0 ops.toList.length) a w
  lhook : ∀ c : Ct, c.P = P → (∀ b, c.st b → b < c.B) → (∀ b, ¬ c.R b) → ∀ (n : Nat) (ad : List (Nat × Nat)) (mk : List Nat) (C : C) (K : Ex → S → Prop) (s : S), x.lhook n ad mk C K s → ∀ (cd : Code) (fl : List Nat) (hs hs' : List Hint), tr0 c.n fl cd hs = some (C, hs') →
    ∀ Q, Lets c K Q → ∀ (a : Act) (w : World) (m : Mp), Sat c m (lk s.hp) s.tm a w → (Code.loop cd).wp c.P Q a w
structure Body (P : Program) (f : Nat) (fl : List Nat) (hs : List Hint) (C : C) (n : Nat) (res : List ResultVar) : Prop where
  it : ∃ fn cd, P.funcs[f]? = some fn ∧ fn.body = some cd ∧ fn.name ≠ "runtime.NumGoroutine" ∧ fn.ntmps = n ∧ fn.results.toList = res ∧ tr n fl cd hs = some (C, [])
theorem spec_of_W {x : Cx} (hx : Hold P x) {f n : Nat} {fl : List Nat} {hs : List Hint} {C : C} {res : List ResultVar} (hB : Body P f fl hs C n res) {ts : List T} {bs : List Blk} {r : AV} (h1 : ok3 r = true) (h2 : ∀ b ∈ bs, ∃ z es l, b = .row 0 z es l)
    {K : Ex → S → Prop} (hW : W x C K (s0 ts n))
    (hK : ∀ (c : Ct) e s a w m, K e s → c.P = P → Sat c m (lk s.hp) s.tm a w → (e = .r ∨ e = .n) ∧ ∃ p vs, resAV x.ti s res = some (p, vs) ∧ p ∧
      ∀ rvs : List Value, rvs.length = vs.length → (∀ (j : Nat) (v : Value) (x : AV), rvs[j]? = some v → vs[j]? = some x → VR m c.B (lk s.hp) w v x) → ∃ m', Mem ⟨c.P, c.w0, c.st, 0, c.B, c.hB, c.hG, c.R, c.wR⟩ m' (lk bs) w ∧ VR m' c.B (lk bs) w (vOf rvs) r) : Spec P f ts bs r := by
  obtain ⟨fn, cd, hf, hb, hname, rfl, rfl, htr⟩ := hB.it
  refine ⟨h1, h2, ⟨fn, cd, hf, hb, hname⟩, fun w B args hBl hG hl hr => ?_⟩
  have E : Env x ⟨P, w, B, fn.ntmps, w.heap.size, Nat.le_refl _, hG, fun _ => False, w⟩ := ⟨hx.ti, hx.spec, hx.ap, hx.mixed, hx.hook _ rfl hBl, hx.lhook _ rfl hBl (fun _ h => h)⟩
  refine calls_of_wp hf hb (W_sound E cd hs [] C htr K _ (fun e s a w' m hk hS => ?_) _ _ w _ (s0_sat w B hBl hG hl hr) hW)
  obtain ⟨he, p, vs, hres, hp, hfin⟩ := hK _ e s a w' m hk rfl hS
  obtain ⟨rvs, g1, g2, g3⟩ := run_results (P := P) hx.ti hS fn hres hp
  have := hfin rvs g2 g3
  rcases he with rfl | rfl
  · exact ⟨hS.defers, _, g1, this⟩
  · exact ⟨hS.defers, _, g1, this⟩
theorem spec_t {x : Cx} (hx : Hold P x) {f n : Nat} {fl : List Nat} {hs : List Hint} {C : C} {res : List ResultVar} (hB : Body P f fl hs C n res) {ts : List T} (r : List (T × Bool)) (hW : W x C (retT x.ti res r) (s0 ts n)) :
    Spec P f ts [] (resV (r.map AV.ofT)) := by
  refine spec_of_W hx hB (ok3_ofT r) (by simp) hW fun c e s a w m hk hc hS => ?_
  have key : (match resAV x.ti s res with
    | some (p, vs) => p ∧ sees (lk s.hp) vs r
    | none => False) → ∃ p vs, resAV x.ti s res = some (p, vs) ∧ p ∧
      ∀ rvs : List Value, rvs.length = vs.length → (∀ (j : Nat) (v : Value) (x : AV), rvs[j]? = some v → vs[j]? = some x → VR m c.B (lk s.hp) w v x) → ∃ m', Mem ⟨c.P, c.w0, c.st, 0, c.B, c.hB, c.hG, c.R, c.wR⟩ m' (lk []) w ∧ VR m' c.B (lk []) w (vOf rvs) (resV (r.map AV.ofT)) := by
    intro hk
    split at hk <;> try exact hk.elim
    rename_i p vs hres
    refine ⟨p, vs, hres, hk.1, fun rvs hl hv => ?_⟩
    obtain ⟨g1, ids, g2, g3⟩ := sees_rep hS.mem hk.2 hl hv
    obtain ⟨st', e1, M1, hst1, hst2⟩ := goesAll ids hS.mem (fun id hid => .inl (g2 id hid))
    refine ⟨_, M1.none, vr_ofT (by omega) fun j v x hv hx => .t _ _ _ ((g3 j v x hv hx).mono (fun b hb => ⟨?_, hb.2⟩) (fun _ _ => rfl))⟩
    rcases hb.1 with hb1 | ⟨id, hid, hpos, rfl⟩
    · exact hst1 _ hb1
    · obtain ⟨ver, z, es, l, hh⟩ := g2 id hid
      exact hst2 id hid _ _ _ _ hh hpos
  cases e with
  | n => exact ⟨.inr rfl, key hk⟩
  | r => exact ⟨.inl rfl, key hk⟩
  | x id => exact hk.elim
  | g l => exact hk.elim
theorem retR_out {x : Cx} {res : List ResultVar} {z : Nat} {es : List (List T)} {l : Bool} {e : Ex} {s : S} {a : Act} {w : World} {m : Mp} (hk : retR x.ti res z es l e s) (hS : Sat c m (lk s.hp) s.tm a w) : (e = .r ∨ e = .n) ∧ ∃ p vs, resAV x.ti s res = some (p, vs) ∧ p ∧
      ∀ rvs : List Value, rvs.length = vs.length → (∀ (j : Nat) (v : Value) (x : AV), rvs[j]? = some v → vs[j]? = some x → VR m c.B (lk s.hp) w v x) → ∃ m', Mem ⟨c.P, c.w0, c.st, 0, c.B, c.hB, c.hG, c.R, c.wR⟩ m' (lk [.row 0 z es l]) w ∧ VR m' c.B (lk [.row 0 z es l]) w (vOf rvs) (.row 0 0 0 es.length) := by
  have key : (match resAV x.ti s res with
    | some (p, [.row id ver off len]) => p ∧ off = 0 ∧ len = es.length ∧ (match rowOf (lk s.hp) id ver with
      | some (z', es', l') => z' = z ∧ es' = es ∧ (l = true → l' = true)
      | none => False)
    | _ => False) → ∃ p vs, resAV x.ti s res = some (p, vs) ∧ p ∧
      ∀ rvs : List Value, rvs.length = vs.length → (∀ (j : Nat) (v : Value) (x : AV), rvs[j]? = some v → vs[j]? = some x → VR m c.B (lk s.hp) w v x) → ∃ m', Mem ⟨c.P, c.w0, c.st, 0, c.B, c.hB, c.hG, c.R, c.wR⟩ m' (lk [.row 0 z es l]) w ∧ VR m' c.B (lk [.row 0 z es l]) w (vOf rvs) (.row 0 0 0 es.length) := by
    intro hk
    split at hk <;> try exact hk.elim
    rename_i p id ver off len hres
    obtain ⟨hp, rfl, rfl, hrow⟩ := hk
    split at hrow <;> try exact hrow.elim
    rename_i z' es' l' hr
    obtain ⟨rfl, rfl, hl⟩ := hrow
    refine ⟨p, _, hres, hp, fun rvs hlen hv => ?_⟩
    match rvs, hlen with
    | [rv], _ =>
      have h0 := hv 0 rv _ rfl rfl
      have hid := rowOf_some hr
      obtain ⟨b1, b2, b3, b4⟩ := hS.mem.blk _ _ hid
      have hpl : ∀ i g, place (⟨m.φ, fun _ => m.ψ id, m.st⟩ : Mp) (lk [.row 0 z' es' l]) i = some g → i = 0 := fun i g hg => by
        cases i with
        | zero => rfl
        | succ i => simp [place, lk] at hg
      refine ⟨⟨m.φ, fun _ => m.ψ id, m.st⟩, ⟨hS.mem.below, hS.mem.kept, fun i b hb => ?_, fun i j g hi hj => by rw [hpl i g hi, hpl j g hj], hS.mem.stlt, hS.mem.stin, hS.mem.soft, fun b hb => ⟨(hS.mem.res b hb).1, (hS.mem.res b hb).2.1, fun i hi => (hS.mem.res b hb).2.2.1 id ?_, (hS.mem.res b hb).2.2.2⟩⟩, ?_⟩
      · cases i with
        | succ i => simp [lk] at hb
        | zero =>
          simp [lk] at hb
          subst hb
          refine ⟨b1, b2, b3, fun hpos => ?_⟩
          obtain ⟨g1, g2, rcs, tt, g3, g4, g5⟩ := b4 hpos
          refine ⟨g1, g2, rcs, tt, g3, g4, fun q j e y he hy => ?_⟩
          obtain ⟨v, hv1, hv2⟩ := g5 q j e y he hy
          exact ⟨v, hv1, hv2.mono (fun b hb => ⟨hb.1, fun e => hb.2 (hl e)⟩) (fun _ _ => rfl)⟩
      · obtain rfl := hpl i b hi
        have hi' : placeB m id (.row ver z' es' l) = some b := hi
        unfold place
        rw [hid]
        exact hi'
      · cases h0 with
        | row _ _ _ _ cap A hid' hver hc hra =>
          obtain ⟨v1, v2⟩ := hra _ _ _ hr
          refine .row 0 0 0 _ cap A (by simp [lk]) (fun _ _ _ _ _ => Nat.zero_le _) hc fun z1 es1 l1 hr1 => ?_
          simp [rowOf, lk] at hr1
          obtain ⟨rfl, rfl, rfl⟩ := hr1
          exact ⟨v1, v2⟩
  cases e with
  | n => exact ⟨.inr rfl, key hk⟩
  | r => exact ⟨.inl rfl, key hk⟩
  | x id => exact hk.elim
  | g l => exact hk.elim
def out1 (h : H) (π : List Nat) : AV → AV → Prop
  | .row k vr off len, v => ∃ id ver z es l, vr = 0 ∧ π[k]? = some id ∧ v = .row id ver off len ∧ rowOf h id ver = some (z, es, l)
  | .nl, v => v = .nl
  | .t x l, v => ∃ l' us, emb2 h v = some (x, l', us) ∧ (l = true → l' = true) ∧ ∀ u ∈ us, u.1 ∉ π
  | _, _ => False
def outs1 (h : H) (π : List Nat) : List AV → List AV → Prop
  | [], [] => True
  | r :: rs, v :: vs => out1 h π r v ∧ outs1 h π rs vs
  | _, _ => False
def out2 (h : H) (π : List Nat) : AV → AV → Prop
  | .agg rs, v => ∃ cs, v = .agg cs ∧ outs1 h π rs cs
  | r, v => out1 h π r v
def outs2 (h : H) (π : List Nat) : List AV → List AV → Prop
  | [], [] => True
  | r :: rs, v :: vs => out2 h π r v ∧ outs2 h π rs vs
  | _, _ => False
def outB (h : H) : List Nat → List Blk → Prop
  | [], [] => True
  | id :: π, b :: bs => (∃ v z es es' l l', h id = some (.row v z es' l') ∧ b = .row 0 z es l ∧ es'.take es.length = es ∧ es.length ≤ es'.length ∧ (l = true → l' = true)) ∧ id ∉ π ∧ outB h π bs
  | _, _ => False
def retO (ti : Nat → Option TI) (res : List ResultVar) (bs : List Blk) (rs : List AV) (e : Ex) (s : S) : Prop :=
  match e with
  | .r | .n => match resAV ti s res with
    | some (p, vs) => p ∧ ∃ π, outB (lk s.hp) π bs ∧ outs2 (lk s.hp) π rs vs
    | none => False
  | _ => False
theorem outB_get : ∀ {π : List Nat} {bs : List Blk}, outB h π bs → π.length = bs.length ∧ (∀ (i j : Nat) (id : Nat), π[i]? = some id → π[j]? = some id → i = j) ∧
    ∀ (k id : Nat) (b : Blk), π[k]? = some id → bs[k]? = some b → ∃ v z es es' l l', h id = some (.row v z es' l') ∧ b = .row 0 z es l ∧ es'.take es.length = es ∧ es.length ≤ es'.length ∧ (l = true → l' = true)
  | [], [], _ => by simp
  | id :: π, b :: bs, hb => by
    obtain ⟨h1, h2, h3⟩ := hb
    obtain ⟨g1, g2, g3⟩ := outB_get h3
    refine ⟨by simp [g1], fun i j x hi hj => ?_, fun k x c hk hc => ?_⟩
    · cases i with
      | zero =>
        cases j with
        | zero => rfl
        | succ j =>
          simp at hi hj
          subst hi
          exact (h2 (List.mem_of_getElem? hj)).elim
      | succ i =>
        cases j with
        | zero =>
          simp at hi hj
          subst hj
          exact (h2 (List.mem_of_getElem? hi)).elim
        | succ j => rw [g2 i j x (by simpa using hi) (by simpa using hj)]
    · cases k with
      | zero => simp at hk hc; subst hk; subst hc; exact h1
      | succ k => exact g3 k x c (by simpa using hk) (by simpa using hc)
def goIds1 (h : H) (π : List Nat) : AV → AV → List Nat
  | .t _ _, v => match emb2 h v with
    | some (_, _, us) => us.map (·.1)
    | none => []
  | _, _ => []
def goIds1s (h : H) (π : List Nat) : List AV → List AV → List Nat
  | r :: rs, v :: vs => goIds1 h π r v ++ goIds1s h π rs vs
  | _, _ => []
def goIds2 (h : H) (π : List Nat) : AV → AV → List Nat
  | .agg rs, .agg cs => goIds1s h π rs cs
  | r, v => goIds1 h π r v
def goIds2s (h : H) (π : List Nat) : List AV → List AV → List Nat
  | r :: rs, v :: vs => goIds2 h π r v ++ goIds2s h π rs vs
  | _, _ => []
theorem goes1 {π : List Nat} (hM : Mem c m h w) {r v : AV} (ho : out1 h π r v) {rv : Value} (hv : VR m c.B h w rv v) : ∀ id ∈ goIds1 h π r v, id ∉ π ∧ ∃ ver z es l, h id = some (.row ver z es l) := by
  cases r <;> simp only [out1, goIds1] at ho ⊢ <;> try (intro id hid; cases hid; done)
  obtain ⟨l', us, he, _, hu⟩ := ho
  rw [he]
  simp only
  obtain ⟨ids, h1, h2, _⟩ := emb2_rep hM he hv
  simp only at h1
  subst h1
  intro id hid
  simp only [List.map_map, List.mem_map, Function.comp] at hid
  obtain ⟨i, hi, rfl⟩ := hid
  exact ⟨hu (i, .gone) (List.mem_map_of_mem hi), h2 i hi⟩
theorem goes1s {π : List Nat} (hM : Mem c m h w) : ∀ {rs vs : List AV}, outs1 h π rs vs → ∀ {rvs : List Value}, rvs.length = vs.length → (∀ (j : Nat) (v : Value) (x : AV), rvs[j]? = some v → vs[j]? = some x → VR m c.B h w v x) → ∀ id ∈ goIds1s h π rs vs, id ∉ π ∧ ∃ ver z es l, h id = some (.row ver z es l)
  | [], [], _, _, _, _ => by intro id hid; cases hid
  | r :: rs, v :: vs, ho, rv :: rvs, hl, hv => by
    intro id hid
    rcases List.mem_append.1 hid with hid | hid
    · exact goes1 hM ho.1 (hv 0 rv v rfl rfl) id hid
    · exact goes1s hM ho.2 (rvs := rvs) (by simpa using hl) (fun j u x hu hx => hv (j + 1) u x (by simpa using hu) (by simpa using hx)) id hid
theorem goes2 {π : List Nat} (hM : Mem c m h w) {r v : AV} (ho : out2 h π r v) {rv : Value} (hv : VR m c.B h w rv v) : ∀ id ∈ goIds2 h π r v, id ∉ π ∧ ∃ ver z es l, h id = some (.row ver z es l) := by
  cases r
  case agg rs =>
    simp only [out2] at ho
    obtain ⟨cs, rfl, ho⟩ := ho
    cases hv with
    | agg vs _ hs hvv => exact goes1s hM ho (rvs := vs.toList) (by simpa using hs) (fun j v x hv hx => hvv j v x (by simpa using hv) hx)
  all_goals
    (simp only [out2] at ho
     have e : ∀ r', (∀ rs, r' ≠ .agg rs) → goIds2 h π r' v = goIds1 h π r' v := fun r' hr => by cases r' <;> first | rfl | exact (hr _ rfl).elim
     rw [e _ (by simp)]
     exact goes1 hM ho hv)
theorem goes2s {π : List Nat} (hM : Mem c m h w) : ∀ {rs vs : List AV}, outs2 h π rs vs → ∀ {rvs : List Value}, rvs.length = vs.length → (∀ (j : Nat) (v : Value) (x : AV), rvs[j]? = some v → vs[j]? = some x → VR m c.B h w v x) → ∀ id ∈ goIds2s h π rs vs, id ∉ π ∧ ∃ ver z es l, h id = some (.row ver z es l)
  | [], [], _, _, _, _ => by intro id hid; cases hid
  | r :: rs, v :: vs, ho, rv :: rvs, hl, hv => by
    intro id hid
    rcases List.mem_append.1 hid with hid | hid
    · exact goes2 hM ho.1 (hv 0 rv v rfl rfl) id hid
    · exact goes2s hM ho.2 (rvs := rvs) (by simpa using hl) (fun j u x hu hx => hv (j + 1) u x (by simpa using hu) (by simpa using hx)) id hid
structure Seen (m m' : Mp) (B : Nat) (h : H) (π ids : List Nat) (bs : List Blk) : Prop where
  psi : ∀ (k id : Nat), π[k]? = some id → m'.ψ k = m.ψ id
  stays : ∀ b, m.st b → m'.st b
  gone : ∀ id ∈ ids, 0 < (m.ψ id).2 → m'.st (m.ψ id).1
  bs : outB h π bs
theorem seen1 {m' : Mp} {π ids : List Nat} {bs : List Blk} (hM : Mem c m h w) (hs : Seen m m' c.B h π ids bs) {r v : AV} (ho : out1 h π r v) (hi : ∀ id ∈ goIds1 h π r v, id ∈ ids) {rv : Value} (hv : VR m c.B h w rv v) : VR m' c.B (lk bs) w rv r := by
  obtain ⟨b1, b2, b3⟩ := outB_get hs.bs
  cases r <;> simp only [out1] at ho
  case nl => subst ho; cases hv; exact .nl
  case row k vr off len =>
    obtain ⟨id, ver, z, es, l, rfl, hk, rfl, hrow⟩ := ho
    cases hv with
    | row _ _ _ _ cap A hid hver hc hr =>
      obtain ⟨r1, r2⟩ := hr _ _ _ hrow
      have hkb : k < bs.length := by rw [← b1]; exact (List.getElem?_eq_some_iff.1 hk).1
      refine .row k 0 off len cap A (by simp [lk, hkb]) (fun _ _ _ _ _ => Nat.zero_le _) hc fun z' es' l' hr' => ?_
      obtain ⟨v, z0, es0, es1, l0, l1, e1, e2, _, _, _⟩ := b3 k id _ hk (List.getElem?_eq_getElem hkb)
      have hz : z' = z := by
        have h1 := rowOf_some hrow
        rw [e1] at h1
        have h2 : lk bs k = some (.row 0 z0 es0 l0) := by simp [lk, hkb, e2]
        have h3 := rowOf_some hr'
        rw [h2] at h3
        simp only [Option.some.injEq, Blk.row.injEq] at h1 h3
        omega
      rw [hz, hs.psi k id hk]
      exact ⟨r1, r2⟩
  case t x l =>
    obtain ⟨l', us, he, hl, hu⟩ := ho
    simp only [goIds1, he] at hi
    obtain ⟨ids0, h1, h2, h3⟩ := emb2_rep hM he hv
    simp only at h1 h3
    subst h1
    refine .t _ _ _ (h3.mono (fun b hb => ⟨?_, fun e => hb.2 (hl e)⟩) (fun _ _ => rfl))
    rcases hb.1 with hb1 | ⟨id, hid, hpos, rfl⟩
    · exact hs.stays _ hb1
    · exact hs.gone id (hi id (List.mem_map.2 ⟨(id, .gone), List.mem_map.2 ⟨id, hid, rfl⟩, rfl⟩)) hpos
theorem seen1s {m' : Mp} {π ids : List Nat} {bs : List Blk} (hM : Mem c m h w) (hs : Seen m m' c.B h π ids bs) : ∀ {rs vs : List AV}, outs1 h π rs vs → (∀ id ∈ goIds1s h π rs vs, id ∈ ids) → ∀ {rvs : List Value}, rvs.length = vs.length → (∀ (j : Nat) (v : Value) (x : AV), rvs[j]? = some v → vs[j]? = some x → VR m c.B h w v x) →
    rs.length = vs.length ∧ ∀ (j : Nat) (v : Value) (r : AV), rvs[j]? = some v → rs[j]? = some r → VR m' c.B (lk bs) w v r
  | [], [], _, _, _, _, _ => by simp
  | r :: rs, v :: vs, ho, hi, rv :: rvs, hl, hv => by
    obtain ⟨g1, g2⟩ := seen1s hM hs ho.2 (fun id hid => hi id (List.mem_append_right _ hid)) (rvs := rvs) (by simpa using hl) (fun j u x hu hx => hv (j + 1) u x (by simpa using hu) (by simpa using hx))
    refine ⟨by simp [g1], fun j u x hu hx => ?_⟩
    cases j with
    | zero => simp at hu hx; subst hu; subst hx; exact seen1 hM hs ho.1 (fun id hid => hi id (List.mem_append_left _ hid)) (hv 0 rv v rfl rfl)
    | succ j => exact g2 j u x (by simpa using hu) (by simpa using hx)
theorem seen2 {m' : Mp} {π ids : List Nat} {bs : List Blk} (hM : Mem c m h w) (hs : Seen m m' c.B h π ids bs) {r v : AV} (ho : out2 h π r v) (hi : ∀ id ∈ goIds2 h π r v, id ∈ ids) {rv : Value} (hv : VR m c.B h w rv v) : VR m' c.B (lk bs) w rv r := by
  cases r
  case agg rs =>
    simp only [out2] at ho
    obtain ⟨cs, rfl, ho⟩ := ho
    cases hv with
    | agg vs _ hsz hvv =>
      obtain ⟨g1, g2⟩ := seen1s hM hs ho hi (rvs := vs.toList) (by simpa using hsz) (fun j v x hv hx => hvv j v x (by simpa using hv) hx)
      exact .agg vs rs (by omega) fun j v x hv hx => g2 j v x (by simpa using hv) hx
  all_goals
    (simp only [out2] at ho
     have e : ∀ r', (∀ rs, r' ≠ .agg rs) → goIds2 h π r' v = goIds1 h π r' v := fun r' hr => by cases r' <;> first | rfl | exact (hr _ rfl).elim
     rw [e _ (by simp)] at hi
     exact seen1 hM hs ho hi hv)
theorem seen2s {m' : Mp} {π ids : List Nat} {bs : List Blk} (hM : Mem c m h w) (hs : Seen m m' c.B h π ids bs) : ∀ {rs vs : List AV}, outs2 h π rs vs → (∀ id ∈ goIds2s h π rs vs, id ∈ ids) → ∀ {rvs : List Value}, rvs.length = vs.length → (∀ (j : Nat) (v : Value) (x : AV), rvs[j]? = some v → vs[j]? = some x → VR m c.B h w v x) →
    rs.length = vs.length ∧ ∀ (j : Nat) (v : Value) (r : AV), rvs[j]? = some v → rs[j]? = some r → VR m' c.B (lk bs) w v r
  | [], [], _, _, _, _, _ => by simp
  | r :: rs, v :: vs, ho, hi, rv :: rvs, hl, hv => by
    obtain ⟨g1, g2⟩ := seen2s hM hs ho.2 (fun id hid => hi id (List.mem_append_right _ hid)) (rvs := rvs) (by simpa using hl) (fun j u x hu hx => hv (j + 1) u x (by simpa using hu) (by simpa using hx))
    refine ⟨by simp [g1], fun j u x hu hx => ?_⟩
    cases j with
    | zero => simp at hu hx; subst hu; subst hx; exact seen2 hM hs ho.1 (fun id hid => hi id (List.mem_append_left _ hid)) (hv 0 rv v rfl rfl)
    | succ j => exact g2 j u x (by simpa using hu) (by simpa using hx)
theorem spec_o {x : Cx} (hx : Hold P x) {f n : Nat} {fl : List Nat} {hs : List Hint} {C : C} {res : List ResultVar} (hB : Body P f fl hs C n res) {ts : List T} (bs : List Blk) (rs : List AV) (hok : ok3 (resV rs) = true) (hW : W x C (retO x.ti res bs rs) (s0 ts n))
    (hbs : ∀ b ∈ bs, ∃ z es l, b = .row 0 z es l) : Spec P f ts bs (resV rs) := by
  refine spec_of_W hx hB hok hbs hW fun c e s a w m hk hc hS => ?_
  have key : (match resAV x.ti s res with
    | some (p, vs) => p ∧ ∃ π, outB (lk s.hp) π bs ∧ outs2 (lk s.hp) π rs vs
    | none => False) → ∃ p vs, resAV x.ti s res = some (p, vs) ∧ p ∧
      ∀ rvs : List Value, rvs.length = vs.length → (∀ (j : Nat) (v : Value) (x : AV), rvs[j]? = some v → vs[j]? = some x → VR m c.B (lk s.hp) w v x) → ∃ m', Mem ⟨c.P, c.w0, c.st, 0, c.B, c.hB, c.hG, c.R, c.wR⟩ m' (lk bs) w ∧ VR m' c.B (lk bs) w (vOf rvs) (resV rs) := by
    intro hk
    split at hk <;> try exact hk.elim
    rename_i p vs hres
    obtain ⟨hp, π, hπ, ho⟩ := hk
    refine ⟨p, vs, hres, hp, fun rvs hlen hv => ?_⟩
    have hgo := goes2s hS.mem ho hlen hv
    obtain ⟨st', e1, M1, hst1, hst2⟩ := goesAll (goIds2s (lk s.hp) π rs vs) hS.mem (fun id hid => .inl (hgo id hid).2)
    obtain ⟨b1, b2, b3⟩ := outB_get hπ
    have hkeep : ∀ id ∈ π, uH (lk s.hp) ((goIds2s (lk s.hp) π rs vs).map fun i => (i, Blk.gone)) id = lk s.hp id := fun id hid => uH_ne _ _ fun u hu e => by
      simp only [List.mem_map] at hu
      obtain ⟨i, hi, rfl⟩ := hu
      simp only at e
      subst e
      exact (hgo i hi).1 hid
    have hget : ∀ k b, lk bs k = some b → ∃ id, π[k]? = some id := fun k b hb => by
      have := (List.getElem?_eq_some_iff.1 hb).1
      exact ⟨π[k]'(by omega), by simp [show k < π.length by omega]⟩
    let m' : Mp := ⟨m.φ, fun k => match π[k]? with | some id => m.ψ id | none => (0, 0), st'⟩
    have hpsi : ∀ k id, π[k]? = some id → m'.ψ k = m.ψ id := fun k id hk => by simp only [m', hk]
    have hseen : Seen m m' c.B (lk s.hp) π (goIds2s (lk s.hp) π rs vs) bs := ⟨hpsi, hst1, fun id hid hpos => by
      obtain ⟨_, ver, z, es, l, hh⟩ := hgo id hid
      exact hst2 id hid _ _ _ _ hh hpos, hπ⟩
    have hplace : ∀ k g, place m' (lk bs) k = some g → ∃ id, π[k]? = some id ∧ place { m with st := st' } (uH (lk s.hp) ((goIds2s (lk s.hp) π rs vs).map fun i => (i, Blk.gone))) id = some g := fun k g hg => by
      unfold place at hg
      cases hb : lk bs k with
      | none => rw [hb] at hg; cases hg
      | some b =>
        rw [hb] at hg
        obtain ⟨id, hid⟩ := hget k b hb
        obtain ⟨v, z, es, es', l, l', e2, rfl, _, _, _⟩ := b3 k id b hid hb
        refine ⟨id, hid, ?_⟩
        unfold place
        rw [hkeep id (List.mem_of_getElem? hid), e2]
        simp only [placeB, hpsi k id hid] at hg ⊢
        exact hg
    refine ⟨m', ⟨M1.below, M1.kept, fun k b hb => ?_, fun i j g hi hj => ?_, M1.stlt, M1.stin, M1.soft, fun b hb => ⟨(M1.res b hb).1, (M1.res b hb).2.1, fun i hi => ?_, (M1.res b hb).2.2.2⟩⟩, ?_⟩
    · obtain ⟨id, hid⟩ := hget k b hb
      obtain ⟨v, z, es, es', l, l', e2, rfl, e3, e4, e5⟩ := b3 k id b hid hb
      have hbk := M1.blk id (.row v z es' l') (by rw [hkeep id (List.mem_of_getElem? hid)]; exact e2)
      obtain ⟨c1, c2, c3, c4⟩ := hbk
      have hg : ∀ (i : Nat) (e : List T), es[i]? = some e → es'[i]? = some e := fun i e he => by
        rw [← e3] at he
        have hlt : i < es.length := by
          have := (List.getElem?_eq_some_iff.1 he).1
          rw [List.length_take] at this; omega
        rwa [List.getElem?_take_of_lt hlt] at he
      refine ⟨by rw [hpsi k id hid]; exact Nat.le_trans e4 c1, Nat.le_trans e4 c2, fun i e he => c3 i e (hg i e he), fun hpos => ?_⟩
      rw [hpsi k id hid] at hpos ⊢
      obtain ⟨g1, g2, rcs, tt, g3, g4, g5⟩ := c4 hpos
      refine ⟨g1, g2, rcs, tt, g3, g4, fun q j e y he hy => ?_⟩
      obtain ⟨u, hu1, hu2⟩ := g5 q j e y (hg q e he) hy
      exact ⟨u, hu1, hu2.mono (fun b hb => ⟨hb.1, fun e => hb.2 (e5 e)⟩) (fun _ _ => rfl)⟩
    · obtain ⟨id, h1, h2⟩ := hplace i g hi
      obtain ⟨id', h3, h4⟩ := hplace j g hj
      have := M1.sep id id' g h2 h4
      subst this
      exact b2 i j id h1 h3
    · obtain ⟨id, h1, h2⟩ := hplace i b hi
      exact (M1.res b hb).2.2.1 id h2
    · obtain ⟨g1, g2⟩ := seen2s hS.mem hseen ho (fun id hid => hid) hlen hv
      have tup : VR m' c.B (lk bs) w (.tuple rvs.toArray) (.tup rs) := .tup _ _ (by simpa using by omega) fun j v x hv hx => g2 j v x (by simpa using hv) hx
      match rvs, rs, g2, (show rvs.length = rs.length by omega), tup with
      | [], [], _, _, tup => exact tup
      | [v], [y], g2, _, _ => exact g2 0 v y rfl rfl
      | v :: u :: rvs, y :: z :: rs, _, _, tup => exact tup
  cases e with
  | n => exact ⟨.inr rfl, key hk⟩
  | r => exact ⟨.inl rfl, key hk⟩
  | x id => exact hk.elim
  | g l => exact hk.elim
def s1 (xs : List (List T)) (ts : List T) : S := ⟨ofL (some (.row 0 0 0 xs.length) :: ts.map fun x => some (arg0 x)), [.row 0 1 xs true]⟩
theorem spec_sl0 {f : Nat} {bs : List Blk} {r : AV} (h1 : Spec P f [.nl] bs r) (h2 : Spec P f [.ne] bs r) : Spec P f [.sl []] bs r := by
  refine ⟨h1.form, h1.rows, h1.body, fun w B args hB hG hl hr => ?_⟩
  have hlt : 0 < args.size := by rw [hl]; simp
  have h0 := hr 0 args[0] (.sl []) (by simp [hlt]) rfl
  have hone : ∀ (x : T), Rep w B args[0] x → ∀ (j : Nat) (v : Value) (y : T), args[j]? = some v → [x][j]? = some y → Rep w B v y := fun x hx j v y hv hy => by
    cases j with
    | zero =>
      simp [hlt] at hv hy
      subst hv; subst hy
      exact hx
    | succ j => simp at hy
  generalize hv : args[0] = v at h0
  cases h0 with
  | sl A n c _ z vals hn hc hm hz0 hz hA hvv =>
    simp at hn
    subst hn
    cases A with
    | none =>
      obtain rfl := hz0 rfl
      exact h1.run w B args hB hG hl (hone .nl (by rw [hv]; exact .nl))
    | some a => exact h2.run w B args hB hG hl (hone .ne (by rw [hv]; exact .ne a c))
def tree1 (h : H) (v : AV) : Option AV := match emb h v with
  | some (x, l, _) => some (.t x l)
  | none => none
def tree1s (h : H) : List AV → Option (List AV)
  | [] => some []
  | v :: vs => match tree1 h v, tree1s h vs with
    | some x, some xs => some (x :: xs)
    | _, _ => none
def tree2 (h : H) : AV → Option AV
  | .agg cs => match tree1s h cs with
    | some xs => some (.agg xs)
    | none => none
  | v => tree1 h v
def tree2s (h : H) : List AV → Option (List AV)
  | [] => some []
  | v :: vs => match tree2 h v, tree2s h vs with
    | some x, some xs => some (x :: xs)
    | _, _ => none
def tree3 (h : H) : AV → Option AV
  | .tup us => match tree2s h us with
    | some xs => some (.tup xs)
    | none => none
  | v => tree2 h v
theorem tree1s_get : ∀ {vs xs : List AV}, tree1s h vs = some xs → vs.length = xs.length ∧ ∀ (j : Nat) (v x : AV), vs[j]? = some v → xs[j]? = some x → tree1 h v = some x
  | [], xs, e => by simp [tree1s] at e; subst e; simp
  | v :: vs, xs, e => by
    simp only [tree1s] at e
    split at e <;> simp only [Option.some.injEq, reduceCtorEq] at e
    rename_i x ys h1 h2
    subst e
    obtain ⟨hl, hg⟩ := tree1s_get h2
    refine ⟨by simp [hl], fun j u y hu hy => ?_⟩
    cases j with
    | zero => simp at hu hy; subst hu; subst hy; exact h1
    | succ j => exact hg j u y (by simpa using hu) (by simpa using hy)
theorem tree2s_get : ∀ {vs xs : List AV}, tree2s h vs = some xs → vs.length = xs.length ∧ ∀ (j : Nat) (v x : AV), vs[j]? = some v → xs[j]? = some x → tree2 h v = some x
  | [], xs, e => by simp [tree2s] at e; subst e; simp
  | v :: vs, xs, e => by
    simp only [tree2s] at e
    split at e <;> simp only [Option.some.injEq, reduceCtorEq] at e
    rename_i x ys h1 h2
    subst e
    obtain ⟨hl, hg⟩ := tree2s_get h2
    refine ⟨by simp [hl], fun j u y hu hy => ?_⟩
    cases j with
    | zero => simp at hu hy; subst hu; subst hy; exact h1
    | succ j => exact hg j u y (by simpa using hu) (by simpa using hy)
theorem tree1_ok {v x : AV} (e : tree1 h v = some x) : ok1 x = true := by
  unfold tree1 at e
  split at e <;> simp only [Option.some.injEq, reduceCtorEq] at e
  subst e; rfl
theorem all_get {α : Type} {p : α → Bool} {xs : List α} (h : ∀ (j : Nat) (x : α), xs[j]? = some x → p x = true) : xs.all p = true := by
  rw [List.all_eq_true]
  intro x hx
  obtain ⟨j, hj⟩ := List.getElem?_of_mem hx
  exact h j x hj
theorem tree2_ok {v x : AV} (e : tree2 h v = some x) : ok2 x = true := by
  cases v
  case agg cs =>
    simp only [tree2] at e
    split at e <;> simp only [Option.some.injEq, reduceCtorEq] at e
    rename_i xs h1
    subst e
    obtain ⟨hl, hg⟩ := tree1s_get h1
    refine all_get fun j x hx => ?_
    have := (List.getElem?_eq_some_iff.1 hx).1
    obtain ⟨v, hv⟩ := list_get (l := cs) (j := j) (by omega)
    exact tree1_ok (hg j v x hv hx)
  all_goals
    (simp only [tree2] at e
     have h1 := tree1_ok e
     cases x <;> first | exact h1 | (simp [ok1] at h1))
theorem tree3_ok {v x : AV} (e : tree3 h v = some x) : ok3 x = true := by
  cases v
  case tup us =>
    simp only [tree3] at e
    split at e <;> simp only [Option.some.injEq, reduceCtorEq] at e
    rename_i xs h1
    subst e
    obtain ⟨hl, hg⟩ := tree2s_get h1
    refine all_get fun j x hx => ?_
    have := (List.getElem?_eq_some_iff.1 hx).1
    obtain ⟨v, hv⟩ := list_get (l := us) (j := j) (by omega)
    exact tree2_ok (hg j v x hv hx)
  all_goals
    (simp only [tree3] at e
     have h1 := tree2_ok e
     cases x <;> first | exact h1 | (simp [ok2, ok1] at h1))
theorem tree1_vr (hM : Mem c m h w) {st' : Nat → Prop} (hst1 : ∀ b, m.st b → st' b) (hst2 : ∀ id ver z es l, h id = some (.row ver z es l) → 0 < (m.ψ id).2 → st' (m.ψ id).1) {rv : Value} {v x : AV} (e : tree1 h v = some x) (hv : VR m c.B h w rv v) : VR { m with st := st' } c.B h' w rv x := by
  unfold tree1 at e
  split at e <;> simp only [Option.some.injEq, reduceCtorEq] at e
  rename_i y l us he
  subst e
  obtain ⟨ids, _, h2, h3⟩ := emb_rep hM he hv
  refine .t _ _ _ (h3.mono (fun b hb => ⟨?_, hb.2⟩) (fun _ _ => rfl))
  rcases hb.1 with h1 | ⟨id, hid, hpos, rfl⟩
  · exact hst1 _ h1
  · obtain ⟨ver, z, es, l, hh⟩ := h2 id hid
    exact hst2 id _ _ _ _ hh hpos
theorem tree2_vr (hM : Mem c m h w) {st' : Nat → Prop} (hst1 : ∀ b, m.st b → st' b) (hst2 : ∀ id ver z es l, h id = some (.row ver z es l) → 0 < (m.ψ id).2 → st' (m.ψ id).1) {rv : Value} {v x : AV} (e : tree2 h v = some x) (hv : VR m c.B h w rv v) : VR { m with st := st' } c.B h' w rv x := by
  cases v
  case agg cs =>
    simp only [tree2] at e
    split at e <;> simp only [Option.some.injEq, reduceCtorEq] at e
    rename_i xs h1
    subst e
    obtain ⟨hl, hg⟩ := tree1s_get h1
    cases hv with
    | agg vs _ hs hvv =>
      refine .agg vs xs (by omega) fun j u x hu hx => ?_
      have := (List.getElem?_eq_some_iff.1 hx).1
      obtain ⟨v, hv⟩ := list_get (l := cs) (j := j) (by omega)
      exact tree1_vr hM hst1 hst2 (hg j v x hv hx) (hvv j u v hu hv)
  all_goals (simp only [tree2] at e; exact tree1_vr hM hst1 hst2 e hv)
theorem tree3_vr (hM : Mem c m h w) {st' : Nat → Prop} (hst1 : ∀ b, m.st b → st' b) (hst2 : ∀ id ver z es l, h id = some (.row ver z es l) → 0 < (m.ψ id).2 → st' (m.ψ id).1) {rv : Value} {v x : AV} (e : tree3 h v = some x) (hv : VR m c.B h w rv v) : VR { m with st := st' } c.B h' w rv x := by
  cases v
  case tup us =>
    simp only [tree3] at e
    split at e <;> simp only [Option.some.injEq, reduceCtorEq] at e
    rename_i xs h1
    subst e
    obtain ⟨hl, hg⟩ := tree2s_get h1
    cases hv with
    | tup vs _ hs hvv =>
      refine .tup vs xs (by omega) fun j u x hu hx => ?_
      have := (List.getElem?_eq_some_iff.1 hx).1
      obtain ⟨v, hv⟩ := list_get (l := us) (j := j) (by omega)
      exact tree2_vr hM hst1 hst2 (hg j v x hv hx) (hvv j u v hu hv)
  all_goals (simp only [tree3] at e; exact tree2_vr hM hst1 hst2 e hv)
theorem Spec.tree {f : Nat} {ts : List T} {bs : List Blk} {r r' : AV} (hs : Spec P f ts bs r) (e : tree3 (lk bs) r = some r') : Spec P f ts [] r' := by
  refine ⟨tree3_ok e, by simp, hs.body, fun w B args hB hG hl hr => (hs.run w B args hB hG hl hr).mono fun ex w' he => ?_⟩
  cases ex with
  | panicked _ => exact he
  | outgrown => exact he
  | returned v =>
    obtain ⟨m, hM, hv⟩ := he
    have hrows : ∀ id b, lk bs id = some b → ∃ ver z es l, lk bs id = some (.row ver z es l) := fun id b hb => by
      obtain ⟨z, es, l, rfl⟩ := hs.rows b (List.mem_of_getElem? hb)
      exact ⟨0, z, es, l, hb⟩
    obtain ⟨st', e1, M1, hst1, hst2⟩ := goesAll (List.range bs.length) hM (fun id hid => .inl (by
      rw [List.mem_range] at hid
      exact hrows id bs[id] (by simp [lk, hid])))
    refine ⟨_, M1.none, tree3_vr hM hst1 (fun id ver z es l hh hpos => hst2 id (by rw [List.mem_range]; exact lk_lt hh) _ _ _ _ hh hpos) e hv⟩
end
end Go.Proofs.YtgkmhmhbepfiaaaDoor.Pm
set_option linter.all false
namespace Go.Proofs.YtgkmhmhbepfiaaaDoor.Pm
open Go Go.RowKit
def tyOf : TypeDesc → Ty
  | .bool => .bool
  | .int k => .int k
  | .string => .str
  | .pointer e => .ptr e
  | .slice e => .slice e
  | .array n e => .array n e
  | .struct fs => .struct (fs.toList.map fun f => (f.offset, f.type))
  | _ => .other
def fldsB (P : Program) : TypeDesc → Bool
  | .struct fs => (fs.toList.mapM fun (f : Field) => (P.info? f.type).map fun j => (f.offset, j.size)).isSome
  | _ => true
def tiOf (P : Program) (t : Nat) : Option TI :=
  match P.underlying t, P.info? t with
  | some d, some inf => match inf.zero with
    | some zv => match cTs zv.cells.toList with
      | some z => match dOK d (tyOf d) && zv.cells.size == inf.size && fldsB P d with
        | true => some ⟨tyOf d, inf.size, inf.bytes, z⟩
        | false => none
      | none => none
    | none => none
  | _, _ => none
theorem tiOf_ok (P : Program) : TIok P (tiOf P) := ⟨fun t i h => by
  unfold tiOf at h
  split at h <;> try cases h
  rename_i d inf hd hi
  split at h <;> try cases h
  rename_i zv hz
  split at h <;> try cases h
  rename_i z hc
  split at h <;> simp only [Option.some.injEq, reduceCtorEq] at h
  rename_i hb
  subst h
  simp only [Bool.and_eq_true, beq_iff_eq] at hb
  refine ⟨⟨d, hd, hb.1.1⟩, ⟨inf, hi, rfl, rfl, zv, hz, hc, hb.1.2⟩, fun fs hfs => ?_⟩
  rw [hd] at hfs
  simp only [Option.some.injEq] at hfs
  subst hfs
  exact hb.2⟩
theorem loop_ind {hd : S → S} {body : (Ex → S → Prop) → S → Prop} {K : Ex → S → Prop} {α : Type} (F : α → S) (μ : α → Nat) (G : α → Prop)
    (step : ∀ a, G a → ∀ R : S → Prop, (∀ a' s, hd s = F a' → G a' → μ a' < μ a → R s) → body (fun e s' => match e with | .n => R s' | e => K e s') (F a)) {a : α} {s : S} {lb : Lock body} {lK : Lock K} (hs : hd s = F a) (ha : G a) : wloop hd body K s lb lK := by
  have key : ∀ (n : Nat) (a : α) (s : S), hd s = F a → G a → μ a < n → rounds hd body K n s := by
    intro n
    induction n with
    | zero => intro a s _ _ h; omega
    | succ n ih =>
      intro a s hs ha hlt
      simp only [rounds, hs]
      exact step a ha (rounds hd body K n) fun a' s' h1 h2 h3 => ih a' s' h1 h2 (by omega)
  exact ⟨μ a + 1, key _ a s hs ha (Nat.lt_succ_self _)⟩
theorem ofInt_toNat {n : Nat} (x : BitVec n) : BitVec.ofInt n (x.toNat : Int) = x := by
  rw [BitVec.ofInt_natCast, BitVec.ofNat_toNat, BitVec.setWidth_eq]
theorem wrap_nat32 (m : Nat) : IntKind.u32.wrap (m : Int) = ((BitVec.ofNat 32 m).toNat : Int) := by
  rw [IntKind.wrap_u32', BitVec.toNat_ofNat]; omega
theorem wrap_nat8 (m : Nat) : IntKind.u8.wrap (m : Int) = ((BitVec.ofNat 8 m).toNat : Int) := by
  rw [IntKind.wrap_u8', BitVec.toNat_ofNat]; omega
theorem wrap_nat64 (m : Nat) : IntKind.u64.wrap (m : Int) = ((BitVec.ofNat 64 m).toNat : Int) := by
  rw [IntKind.wrap_u64, BitVec.toNat_ofNat]; omega
theorem wrap32 (x : BitVec 32) : IntKind.u32.wrap (x.toNat : Int) = (x.toNat : Int) := by rw [wrap_nat32, BitVec.ofNat_toNat, BitVec.setWidth_eq]
theorem wrap8 (x : BitVec 8) : IntKind.u8.wrap (x.toNat : Int) = (x.toNat : Int) := by rw [wrap_nat8, BitVec.ofNat_toNat, BitVec.setWidth_eq]
theorem wrap64 (x : BitVec 64) : IntKind.u64.wrap (x.toNat : Int) = (x.toNat : Int) := by rw [wrap_nat64, BitVec.ofNat_toNat, BitVec.setWidth_eq]
theorem wrap32_8 (x : BitVec 8) : IntKind.u32.wrap (x.toNat : Int) = ((x.setWidth 32).toNat : Int) := by rw [wrap_nat32, BitVec.ofNat_toNat]
theorem wrap8_32 (x : BitVec 32) : IntKind.u8.wrap (x.toNat : Int) = ((x.setWidth 8).toNat : Int) := by rw [wrap_nat8, BitVec.ofNat_toNat]
theorem fdiv_shr {n : Nat} (x : BitVec n) (k : Nat) : Int.fdiv (x.toNat : Int) (2 ^ k) = ((x >>> k).toNat : Int) := by
  rw [BitVec.toNat_ushiftRight, Nat.shiftRight_eq_div_pow]
  have : (0 : Int) ≤ 2 ^ k := Int.pow_nonneg (by omega)
  rw [Int.fdiv_eq_ediv_of_nonneg _ this]
  simp
theorem mul_shl32 (x : BitVec 32) (k : Nat) : IntKind.u32.wrap ((x.toNat : Int) * 2 ^ k) = ((x <<< k).toNat : Int) := by
  rw [show ((x.toNat : Int) * 2 ^ k) = ((x.toNat * 2 ^ k : Nat) : Int) by simp, wrap_nat32, BitVec.toNat_ofNat, BitVec.toNat_shiftLeft, Nat.shiftLeft_eq]
theorem neg32 (x : BitVec 32) : IntKind.u32.wrap (0 - (x.toNat : Int)) = ((-x).toNat : Int) := by
  rw [IntKind.wrap_u32', BitVec.toNat_neg]
  have := x.isLt
  omega
theorem add32 (x y : BitVec 32) : IntKind.u32.wrap ((x.toNat : Int) + (y.toNat : Int)) = ((x + y).toNat : Int) := by
  rw [show ((x.toNat : Int) + (y.toNat : Int)) = ((x.toNat + y.toNat : Nat) : Int) by simp, wrap_nat32, BitVec.toNat_ofNat, BitVec.toNat_add]
theorem not32 (x : BitVec 32) : IntKind.u32.wrap (((BitVec.ofInt 32 IntKind.u32.max) ^^^ x).toNat : Int) = ((~~~x).toNat : Int) := by
  have : BitVec.ofInt 32 IntKind.u32.max = BitVec.allOnes 32 := by decide
  rw [wrap32, this, BitVec.allOnes_xor]
theorem wrap_i64_id {n : Int} (h0 : -9223372036854775808 ≤ n) (h1 : n < 9223372036854775808) : IntKind.i64.wrap n = n := by
  rw [IntKind.wrap_i64]; omega
theorem bv8_of {n : Int} (h0 : 0 ≤ n) (h1 : n < 256) : n = ((BitVec.ofInt 8 n).toNat : Int) := by
  rw [BitVec.toNat_ofInt]
  omega
end Go.Proofs.YtgkmhmhbepfiaaaDoor.Pm
set_option linter.all false
namespace Go.Proofs.YtgkmhmhbepfiaaaDoor.Pm
open Go Go.RowKit
theorem body_of {P : Program} {f n : Nat} {fn : Func} {fl : List Nat} {hs : List Hint} {C : C} {res : List ResultVar} (hf : P.funcs[f]? = some fn) (ht : (fn.body.bind fun cd => tr n fl cd hs) = some (C, []))
    (hname : (fn.name == "runtime.NumGoroutine") = false) (hn : fn.ntmps = n) (hr : fn.results.toList = res) : Body P f fl hs C n res := by
  cases hb : fn.body with
  | none => rw [hb] at ht; cases ht
  | some cd =>
    rw [hb] at ht
    exact ⟨fn, cd, hf, hb, by simpa using hname, hn, hr, ht⟩
noncomputable def Xof (P : Program) : Cx := ⟨tiOf P, Spec P, SpecAp P, fun _ _ _ _ => False, fun _ _ _ _ _ _ => False⟩
theorem hold {P : Program} (hm : P.follows .mixedOrders = true) : Hold P (Xof P) := ⟨tiOf_ok P, fun _ _ _ _ h => h, fun _ _ _ _ h => h, hm, fun _ _ _ _ _ _ _ h => h.elim, fun _ _ _ _ _ _ _ _ _ _ h => h.elim⟩
def wup (us : List (Nat × Blk)) (tm : Tm) (hp : List Blk) (K : S → Prop) (_ : Lock K) (_ : Lock tm) : Prop := K ⟨tm, upds hp us⟩
def wqv (r : Res) (K : AV → List (Nat × Blk) → Prop) (_ : Lock K) : Prop :=
  match r with
  | some (p, v, us) => p ∧ K v us
  | none => False
def wqc (f : Option AV) (as : Option (List AV)) (x : Cx) (h : H) (n : Nat) (K : AV → List (Nat × Blk) → Prop) (_ : Lock K) : Prop :=
  match f, as with
  | some (.fn g cap), some vs => wcall x h n g (vs ++ cap) K .mk
  | _, _ => False
def wqs (co : Option (Operand × List Operand)) (x : Cx) (tm : Tm) (h : H) (n : Nat) (op : Op) (K : AV → List (Nat × Blk) → Prop) (_ : Lock K) (_ : Lock tm) (_ : Lock op) : Prop :=
  match co with
  | some (f, as) => wqc (ev tm f) (evs tm as) x h n K .mk
  | none => wqv (q x.ti tm h n op) K .mk
def wst (r : Option (Prop × S)) (K : S → Prop) (_ : Lock K) : Prop :=
  match r with
  | some (p, s') => p ∧ K s'
  | none => False
def wstep (b : Bool) (x : Cx) (d : Option Nat) (op : Op) (tm : Tm) (hp : List Blk) (K : S → Prop) (_ : Lock K) (_ : Lock tm) (_ : Lock op) : Prop :=
  match b with
  | true => wst (qst x ⟨tm, hp⟩ d op) K .mk
  | false => wqs (callOf op) x tm (lk hp) hp.length op (fun v us => wup us (pt tm d (some v)) hp K .mk .mk) .mk .mk .mk
theorem wex_step (x : Cx) (d : Option Nat) (op : Op) (g : Option (Nat × Bool)) (tm : Tm) (hp : List Blk) (K : S → Prop) : wex x ⟨d, op, g⟩ ⟨tm, hp⟩ K = wstep (isSt op) x d op tm hp K .mk .mk .mk := by
  unfold wex wstep
  cases isSt op
  · simp only [wq, wqs]
    cases callOf op <;> rfl
  · rfl
theorem wops_plain' (x : Cx) (d : Option Nat) (op : Op) (r : List I) (tm : Tm) (hp : List Blk) (K : S → Prop) : wops x (⟨d, op, none⟩ :: r) ⟨tm, hp⟩ K = wstep (isSt op) x d op tm hp (fun s' => wops x r s' K) .mk .mk .mk := by
  rw [wops_plain, wex_step]
theorem wops_guard2 (x : Cx) (d : Option Nat) (op : Op) (t : Nat) (want : Bool) (r : List I) (tm : Tm) (hp : List Blk) (K : S → Prop) : wops x (⟨d, op, some (t, want)⟩ :: r) ⟨tm, hp⟩ K =
    wguard (gt tm t) want (wstep (isSt op) x d op tm hp (fun s' => wops x r s' K) .mk .mk .mk) (wops x r ⟨pt tm d (some (.tup [])), hp⟩ K) .mk .mk := by
  rw [wops_guard', wex_step]
theorem rep0 {α : Type} (a : α) : List.replicate 0 a = [] := rfl
theorem rep1 {α : Type} (a : α) : List.replicate 1 a = [a] := rfl
theorem rep2 {α : Type} (a : α) : List.replicate 2 a = [a, a] := rfl
theorem rep3 {α : Type} (a : α) : List.replicate 3 a = [a, a, a] := rfl
theorem rep4 {α : Type} (a : α) : List.replicate 4 a = [a, a, a, a] := rfl
theorem rep5 {α : Type} (a : α) : List.replicate 5 a = [a, a, a, a, a] := rfl
theorem rep6 {α : Type} (a : α) : List.replicate 6 a = [a, a, a, a, a, a] := rfl
theorem rep7 {α : Type} (a : α) : List.replicate 7 a = [a, a, a, a, a, a, a] := rfl
theorem rep8 {α : Type} (a : α) : List.replicate 8 a = [a, a, a, a, a, a, a, a] := rfl
theorem rep9 {α : Type} (a : α) : List.replicate 9 a = [a, a, a, a, a, a, a, a, a] := rfl
theorem rep10 {α : Type} (a : α) : List.replicate 10 a = [a, a, a, a, a, a, a, a, a, a] := rfl
theorem rep11 {α : Type} (a : α) : List.replicate 11 a = [a, a, a, a, a, a, a, a, a, a, a] := rfl
theorem rep12 {α : Type} (a : α) : List.replicate 12 a = [a, a, a, a, a, a, a, a, a, a, a, a] := rfl
theorem not32' (x : BitVec 32) : BitVec.ofInt 32 IntKind.u32.max ^^^ x = ~~~x := by
  have : BitVec.ofInt 32 IntKind.u32.max = BitVec.allOnes 32 := by decide
  rw [this, BitVec.allOnes_xor]
def bT (bs : List (BitVec 8)) : List (List T) := bs.map fun b => [T.i .u8 b.toNat]
theorem bT_length (bs : List (BitVec 8)) : (bT bs).length = bs.length := by simp [bT]
theorem bT_get {bs : List (BitVec 8)} {k : Nat} (h : k < bs.length) : (bT bs)[k]? = some [.i .u8 bs[k].toNat] := by simp [bT, h]
theorem retT_r (ti : Nat → Option TI) (res : List ResultVar) (r : List (T × Bool)) (s : S) : retT ti res r .r s = (match resAV ti s res with
    | some (p, vs) => p ∧ sees (lk s.hp) vs r
    | none => False) := rfl
theorem retT_n (ti : Nat → Option TI) (res : List ResultVar) (r : List (T × Bool)) (s : S) : retT ti res r .n s = (match resAV ti s res with
    | some (p, vs) => p ∧ sees (lk s.hp) vs r
    | none => False) := rfl
theorem retT_x (ti : Nat → Option TI) (res : List ResultVar) (r : List (T × Bool)) (j : Nat) (s : S) : retT ti res r (.x j) s = False := rfl
theorem retR_r (ti : Nat → Option TI) (res : List ResultVar) (z : Nat) (es : List (List T)) (l : Bool) (s : S) : retR ti res z es l .r s = (match resAV ti s res with
    | some (p, [.row id ver off len]) => p ∧ off = 0 ∧ len = es.length ∧ (match rowOf (lk s.hp) id ver with
      | some (z', es', l') => z' = z ∧ es' = es ∧ (l = true → l' = true)
      | none => False)
    | _ => False) := rfl
theorem wcond_mk {y : Bool} {A B : Prop} {lA : Lock A} {lB : Lock B} (h1 : y = true → A) (h2 : y = false → B) : wcond y A B lA lB := ⟨h1, h2⟩
theorem wcall_mk {x : Cx} {h : H} {n g : Nat} {as : List AV} {K : AV → List (Nat × Blk) → Prop} {lK : Lock K} (ts : List T) (bs : List Blk) (r : AV) (hs : x.spec g ts bs r) (ha : argsOK h as ts)
    (hl : as.any AV.loose = true → r.fresh = true ∧ bs.all Blk.fresh = true) (hk : K (r.sh n) (number n bs)) : wcall x h n g as K lK := ⟨_, _, .plain ts ts bs r ha (.inl rfl) hs hl, hk⟩
end Go.Proofs.YtgkmhmhbepfiaaaDoor.Pm
set_option linter.all false
namespace Go.Proofs.YtgkmhmhbepfiaaaDoor.Pm
open Go Go.RowKit
inductive Kont where
  | base
  | seq (b : C) (k : Kont)
  | block (id : Nat) (k : Kont)
def runK (x : Cx) (f : Ex → S → Prop) : Kont → Ex → S → Prop
  | .base => f
  | .seq b k => fun e s' => match e with
    | .n => W x b (runK x f k) s'
    | e => runK x f k e s'
  | .block id k => fun e s' => match e with
    | .x j => if j = id then runK x f k .n s' else runK x f k (.x j) s'
    | e => runK x f k e s'
section
variable (x : Cx) (f : Ex → S → Prop) (lf : Lock f)
def Rk (k : Kont) (e : Ex) (s : S) (_ : Lock f) : Prop := runK x f k e s
def Wk (k : Kont) (c : C) (s : S) (_ : Lock f) : Prop := W x c (runK x f k) s
def Ok (k : Kont) (r : List I) (s : S) (_ : Lock f) : Prop := wops x r s (runK x f k .n)
theorem Rk_base (e : Ex) (s : S) : Rk x f .base e s lf = f e s := rfl
theorem Rk_seq_n (b : C) (k : Kont) (s : S) : Rk x f (.seq b k) .n s lf = Wk x f k b s lf := rfl
theorem Rk_seq_x (b : C) (k : Kont) (i : Nat) (s : S) : Rk x f (.seq b k) (.x i) s lf = Rk x f k (.x i) s lf := rfl
theorem Rk_seq_r (b : C) (k : Kont) (s : S) : Rk x f (.seq b k) .r s lf = Rk x f k .r s lf := rfl
theorem Rk_seq_g (b : C) (k : Kont) (i : Nat) (s : S) : Rk x f (.seq b k) (.g i) s lf = Rk x f k (.g i) s lf := rfl
theorem Rk_block_n (id : Nat) (k : Kont) (s : S) : Rk x f (.block id k) .n s lf = Rk x f k .n s lf := rfl
theorem Rk_block_r (id : Nat) (k : Kont) (s : S) : Rk x f (.block id k) .r s lf = Rk x f k .r s lf := rfl
theorem Rk_block_g (id : Nat) (k : Kont) (i : Nat) (s : S) : Rk x f (.block id k) (.g i) s lf = Rk x f k (.g i) s lf := rfl
theorem Rk_block_x (id : Nat) (k : Kont) (i : Nat) (s : S) : Rk x f (.block id k) (.x i) s lf = if i = id then Rk x f k .n s lf else Rk x f k (.x i) s lf := rfl
theorem Wk_skip (k : Kont) (s : S) : Wk x f k .skip s lf = Rk x f k .n s lf := by unfold Wk; rw [W_skip]; rfl
theorem Wk_label (k : Kont) (s : S) : Wk x f k .label s lf = Rk x f k .n s lf := by unfold Wk; rw [W_label]; rfl
theorem Wk_ret (k : Kont) (s : S) : Wk x f k .ret s lf = Rk x f k .r s lf := by unfold Wk; rw [W_ret]; rfl
theorem Wk_exit (k : Kont) (i : Nat) (s : S) : Wk x f k (.exit i) s lf = Rk x f k (.x i) s lf := by unfold Wk; rw [W_exit]; rfl
theorem Wk_goto (k : Kont) (i : Nat) (s : S) : Wk x f k (.goto i) s lf = Rk x f k (.g i) s lf := by unfold Wk; rw [W_goto]; rfl
theorem Wk_seq (k : Kont) (a b : C) (s : S) : Wk x f k (.seq a b) s lf = Wk x f (.seq b k) a s lf := by unfold Wk; rw [W_seq]; rfl
theorem Wk_block (k : Kont) (id : Nat) (c : C) (s : S) : Wk x f k (.block id c) s lf = Wk x f (.block id k) c s lf := by unfold Wk; rw [W_block]; rfl
theorem Wk_reg (k : Kont) (r : List I) (s : S) : Wk x f k (.reg r) s lf = Ok x f k r s lf := by unfold Wk; rw [W_reg]; rfl
def Lk (k : Kont) (ad : List (Nat × Nat)) (mk : List Nat) (c : C) (s : S) (_ : Lock (f, k, c)) : Prop := wloop (hdL ad mk (adopt ad s)) (W x c) (runK x f k) (adopt ad s) .mk .mk
theorem Wk_loop (k : Kont) (ad : List (Nat × Nat)) (mk : List Nat) (c : C) (s : S) : Wk x f k (.loop ad mk c) s lf = Lk x f k ad mk c s .mk := by unfold Wk Lk; rw [W_loop]
theorem Wk_cond (k : Kont) (o : Operand) (a b : C) (tm : Tm) (hp : List Blk) : Wk x f k (.cond o a b) ⟨tm, hp⟩ lf = wguard1 (ev tm o) (Wk x f k a ⟨tm, hp⟩ lf) (Wk x f k b ⟨tm, hp⟩ lf) .mk .mk := by unfold Wk; rw [W_cond']
def Nk (k : Kont) (tm : Tm) (hp : List Blk) (_ : Lock (f, k)) : Prop := Rk x f k .n ⟨tm, hp⟩ .mk
theorem Nk_eq (k : Kont) (tm : Tm) (hp : List Blk) (l : Lock (f, k)) : Nk x f k tm hp l = Rk x f k .n ⟨tm, hp⟩ .mk := rfl
theorem Wk_keep (k : Kont) (ts : List Nat) (tm : Tm) (hp : List Blk) : Wk x f k (.keep ts) ⟨tm, hp⟩ lf = Nk x f k (restr tm ts) hp .mk := by unfold Wk Nk; rw [W_keep]; rfl
def Gk (k : Kont) (ad : List (Nat × Nat)) (mk : List Nat) (c : C) (gs : List (Nat × C)) (s : S) (_ : Lock (f, k, c, gs)) : Prop := wscope (fun m s => cut mk m (adopt ad s)) (Ws x gs) (W x c) (runK x f k) s .mk .mk .mk
theorem Wk_scope (k : Kont) (ad : List (Nat × Nat)) (mk : List Nat) (c : C) (gs : List (Nat × C)) (s : S) : Wk x f k (.scope ad mk c gs) s lf = Gk x f k ad mk c gs s .mk := by unfold Wk Gk; rw [W_scope]
def wupk (us : List (Nat × Blk)) (k : Kont) (tm : Tm) (hp : List Blk) (r : List I) (_ : Lock (f, k, tm, r)) : Prop := Ok x f k r ⟨tm, upds hp us⟩ .mk
theorem wupk_nil (k : Kont) (tm : Tm) (hp : List Blk) (r : List I) (l : Lock (f, k, tm, r)) : wupk x f [] k tm hp r l = Ok x f k r ⟨tm, hp⟩ .mk := rfl
theorem wupk_cons (u : Nat × Blk) (us : List (Nat × Blk)) (k : Kont) (tm : Tm) (hp : List Blk) (r : List I) (l : Lock (f, k, tm, r)) : wupk x f (u :: us) k tm hp r l = wupk x f us k tm (upd1 hp u) r l := rfl
def wqvk (q : Res) (k : Kont) (d : Option Nat) (tm : Tm) (hp : List Blk) (r : List I) (_ : Lock (f, k, tm, hp, r)) : Prop :=
  match q with
  | some (p, v, us) => p ∧ wupk x f us k (pt tm d (some v)) hp r .mk
  | none => False
theorem wqvk_some (p : Prop) (v : AV) (us : List (Nat × Blk)) (k : Kont) (d : Option Nat) (tm : Tm) (hp : List Blk) (r : List I) (l : Lock (f, k, tm, hp, r)) : wqvk x f (some (p, v, us)) k d tm hp r l = (p ∧ wupk x f us k (pt tm d (some v)) hp r .mk) := rfl
def wcallk (k : Kont) (d : Option Nat) (tm : Tm) (hp : List Blk) (r : List I) (g : Nat) (as : List AV) (_ : Lock (f, k, tm, r)) : Prop :=
  wcall x (lk hp) hp.length g as (fun v us => wupk x f us k (pt tm d (some v)) hp r .mk) .mk
def wqck (fo : Option AV) (as : Option (List AV)) (k : Kont) (d : Option Nat) (tm : Tm) (hp : List Blk) (r : List I) (_ : Lock (f, k, tm, r)) : Prop :=
  match fo, as with
  | some (.fn g cap), some vs => wcallk x f k d tm hp r g (vs ++ cap) .mk
  | _, _ => False
theorem wqck_fn (g : Nat) (cap vs : List AV) (k : Kont) (d : Option Nat) (tm : Tm) (hp : List Blk) (r : List I) (l : Lock (f, k, tm, r)) : wqck x f (some (.fn g cap)) (some vs) k d tm hp r l = wcallk x f k d tm hp r g (vs ++ cap) l := rfl
def wstk (q : Option (Prop × S)) (k : Kont) (r : List I) (_ : Lock (f, k, r)) : Prop :=
  match q with
  | some (p, s') => p ∧ Ok x f k r s' .mk
  | none => False
theorem wstk_some (p : Prop) (s' : S) (k : Kont) (r : List I) (l : Lock (f, k, r)) : wstk x f (some (p, s')) k r l = (p ∧ Ok x f k r s' .mk) := rfl
def wqsk (co : Option (Operand × List Operand)) (k : Kont) (d : Option Nat) (op : Op) (tm : Tm) (hp : List Blk) (r : List I) (_ : Lock (f, k, tm, hp, r, op)) : Prop :=
  match co with
  | some (fo, as) => wqck x f (ev tm fo) (evs tm as) k d tm hp r .mk
  | none => wqvk x f (q x.ti tm (lk hp) hp.length op) k d tm hp r .mk
theorem wqsk_some (fo : Operand) (as : List Operand) (k : Kont) (d : Option Nat) (op : Op) (tm : Tm) (hp : List Blk) (r : List I) (l : Lock (f, k, tm, hp, r, op)) : wqsk x f (some (fo, as)) k d op tm hp r l = wqck x f (ev tm fo) (evs tm as) k d tm hp r .mk := rfl
theorem wqsk_none (k : Kont) (d : Option Nat) (op : Op) (tm : Tm) (hp : List Blk) (r : List I) (l : Lock (f, k, tm, hp, r, op)) : wqsk x f none k d op tm hp r l = wqvk x f (q x.ti tm (lk hp) hp.length op) k d tm hp r .mk := rfl
def Sk (b : Bool) (k : Kont) (d : Option Nat) (op : Op) (tm : Tm) (hp : List Blk) (r : List I) (_ : Lock (f, k, tm, hp, r, op)) : Prop :=
  match b with
  | true => wstk x f (qst x ⟨tm, hp⟩ d op) k r .mk
  | false => wqsk x f (callOf op) k d op tm hp r .mk
theorem Sk_true (k : Kont) (d : Option Nat) (op : Op) (tm : Tm) (hp : List Blk) (r : List I) (l : Lock (f, k, tm, hp, r, op)) : Sk x f true k d op tm hp r l = wstk x f (qst x ⟨tm, hp⟩ d op) k r .mk := rfl
theorem Sk_false (k : Kont) (d : Option Nat) (op : Op) (tm : Tm) (hp : List Blk) (r : List I) (l : Lock (f, k, tm, hp, r, op)) : Sk x f false k d op tm hp r l = wqsk x f (callOf op) k d op tm hp r l := rfl
theorem Sk_of (k : Kont) (d : Option Nat) (op : Op) (tm : Tm) (hp : List Blk) (r : List I) : wstep (isSt op) x d op tm hp (fun s' => wops x r s' (runK x f k .n)) .mk .mk .mk = Sk x f (isSt op) k d op tm hp r .mk := by
  unfold wstep Sk
  cases isSt op
  · simp only [wqs, wqsk]
    cases callOf op with
    | none => rfl
    | some p => rfl
  · rfl
theorem Ok_plain (k : Kont) (d : Option Nat) (op : Op) (r : List I) (tm : Tm) (hp : List Blk) : Ok x f k (⟨d, op, none⟩ :: r) ⟨tm, hp⟩ lf = Sk x f (isSt op) k d op tm hp r .mk := by
  unfold Ok
  rw [wops_plain', Sk_of]
theorem Ok_guard (k : Kont) (d : Option Nat) (op : Op) (t : Nat) (want : Bool) (r : List I) (tm : Tm) (hp : List Blk) : Ok x f k (⟨d, op, some (t, want)⟩ :: r) ⟨tm, hp⟩ lf =
    wguard (gt tm t) want (Sk x f (isSt op) k d op tm hp r .mk) (Ok x f k r ⟨pt tm d (some (.tup [])), hp⟩ lf) .mk .mk := by
  unfold Ok
  rw [wops_guard2, Sk_of]
theorem Ok_nil (k : Kont) (s : S) : Ok x f k [] s lf = Rk x f k .n s lf := rfl
def Dk (k : Kont) (l : List D) (n : Nat) (lg : Lg) (s : S) (_ : Lock f) : Prop := wdraw x l n lg s (runK x f k .n)
def Hk (k : Kont) (n : Nat) (l : List I) (s : S) (_ : Lock f) : Prop := x.hook n l s (runK x f k .n)
theorem Wk_sem (k : Kont) (n : Nat) (l : List I) (s : S) : Wk x f k (.sem n l) s lf = Hk x f k n l s lf := by unfold Wk Hk; rw [W_sem]
def Hlk (k : Kont) (n : Nat) (ad : List (Nat × Nat)) (mk : List Nat) (c : C) (s : S) (_ : Lock (f, k, c)) : Prop := x.lhook n ad mk c (runK x f k) s
theorem Wk_lsem (k : Kont) (n : Nat) (ad : List (Nat × Nat)) (mk : List Nat) (c : C) (s : S) : Wk x f k (.lsem n ad mk c) s lf = Hlk x f k n ad mk c s .mk := by unfold Wk Hlk; rw [W_lsem]
theorem Wk_draw (k : Kont) (l : List D) (s : S) : Wk x f k (.draw l) s lf = Dk x f k l 0 [] s lf := by unfold Wk; rw [W_draw]; rfl
theorem Dk_nil (k : Kont) (n : Nat) (lg : Lg) (s : S) : Dk x f k [] n lg s lf = Rk x f k .n s lf := rfl
def wupd (us : List (Nat × Blk)) (k : Kont) (n : Nat) (lg : Lg) (tm : Tm) (hp : List Blk) (r : List D) (_ : Lock (f, k, lg, tm, r)) : Prop := Dk x f k r n lg ⟨tm, upds hp us⟩ .mk
theorem wupd_nil (k : Kont) (n : Nat) (lg : Lg) (tm : Tm) (hp : List Blk) (r : List D) (l : Lock (f, k, lg, tm, r)) : wupd x f [] k n lg tm hp r l = Dk x f k r n lg ⟨tm, hp⟩ .mk := rfl
theorem wupd_cons (u : Nat × Blk) (us : List (Nat × Blk)) (k : Kont) (n : Nat) (lg : Lg) (tm : Tm) (hp : List Blk) (r : List D) (l : Lock (f, k, lg, tm, r)) : wupd x f (u :: us) k n lg tm hp r l = wupd x f us k n lg tm (upd1 hp u) r l := rfl
def wlog (w ft : List Nat) (us : List (Nat × Blk)) (na : List Nat) (k : Kont) (n : Nat) (lg : Lg) (tm : Tm) (hp : List Blk) (r : List D) (_ : Lock (f, k, lg, tm, hp, r)) : Prop :=
  free na ft w lg = true ∧ wupd x f us k (n + 1) ((n, w, ft) :: lg) tm hp r .mk
theorem wlog_eq (w ft : List Nat) (us : List (Nat × Blk)) (na : List Nat) (k : Kont) (n : Nat) (lg : Lg) (tm : Tm) (hp : List Blk) (r : List D) (l : Lock (f, k, lg, tm, hp, r)) :
    wlog x f w ft us na k n lg tm hp r l = (free na ft w lg = true ∧ wupd x f us k (n + 1) ((n, w, ft) :: lg) tm hp r .mk) := rfl
def wqvd (q : Res) (ft na : List Nat) (k : Kont) (n : Nat) (lg : Lg) (d : Option Nat) (tm : Tm) (hp : List Blk) (r : List D) (_ : Lock (f, k, lg, tm, hp, r)) : Prop :=
  match q with
  | some (p, v, us) => p ∧ wlog x f (fsts us) ft us na k n lg (pt tm d (some v)) hp r .mk
  | none => False
theorem wqvd_some (p : Prop) (v : AV) (us : List (Nat × Blk)) (ft na : List Nat) (k : Kont) (n : Nat) (lg : Lg) (d : Option Nat) (tm : Tm) (hp : List Blk) (r : List D) (l : Lock (f, k, lg, tm, hp, r)) :
    wqvd x f (some (p, v, us)) ft na k n lg d tm hp r l = (p ∧ wlog x f (fsts us) ft us na k n lg (pt tm d (some v)) hp r .mk) := rfl
def wcalld (ft na : List Nat) (k : Kont) (n : Nat) (lg : Lg) (d : Option Nat) (tm : Tm) (hp : List Blk) (r : List D) (g : Nat) (as : List AV) (_ : Lock (f, k, lg, tm, r)) : Prop :=
  wcall x (lk hp) hp.length g as (fun v us => wlog x f (fsts us) ft us na k n lg (pt tm d (some v)) hp r .mk) .mk
def wqcd (fo : Option AV) (as : Option (List AV)) (ft na : List Nat) (k : Kont) (n : Nat) (lg : Lg) (d : Option Nat) (tm : Tm) (hp : List Blk) (r : List D) (_ : Lock (f, k, lg, tm, r)) : Prop :=
  match fo, as with
  | some (.fn g cap), some vs => wcalld x f ft na k n lg d tm hp r g (vs ++ cap) .mk
  | _, _ => False
theorem wqcd_fn (g : Nat) (cap vs : List AV) (ft na : List Nat) (k : Kont) (n : Nat) (lg : Lg) (d : Option Nat) (tm : Tm) (hp : List Blk) (r : List D) (l : Lock (f, k, lg, tm, r)) :
    wqcd x f (some (.fn g cap)) (some vs) ft na k n lg d tm hp r l = wcalld x f ft na k n lg d tm hp r g (vs ++ cap) l := rfl
def wqsd (co : Option (Operand × List Operand)) (ft na : List Nat) (k : Kont) (n : Nat) (lg : Lg) (d : Option Nat) (op : Op) (tm : Tm) (hp : List Blk) (r : List D) (_ : Lock (f, k, lg, tm, hp, r, op)) : Prop :=
  match co with
  | some (fo, as) => wqcd x f (ev tm fo) (evs tm as) ft na k n lg d tm hp r .mk
  | none => wqvd x f (q x.ti tm (lk hp) hp.length op) ft na k n lg d tm hp r .mk
theorem wqsd_some (fo : Operand) (as : List Operand) (ft na : List Nat) (k : Kont) (n : Nat) (lg : Lg) (d : Option Nat) (op : Op) (tm : Tm) (hp : List Blk) (r : List D) (l : Lock (f, k, lg, tm, hp, r, op)) :
    wqsd x f (some (fo, as)) ft na k n lg d op tm hp r l = wqcd x f (ev tm fo) (evs tm as) ft na k n lg d tm hp r .mk := rfl
theorem wqsd_none (ft na : List Nat) (k : Kont) (n : Nat) (lg : Lg) (d : Option Nat) (op : Op) (tm : Tm) (hp : List Blk) (r : List D) (l : Lock (f, k, lg, tm, hp, r, op)) :
    wqsd x f none ft na k n lg d op tm hp r l = wqvd x f (q x.ti tm (lk hp) hp.length op) ft na k n lg d tm hp r .mk := rfl
def wstd (q : Option (Prop × Option AV × Nat × Blk)) (ft na : List Nat) (k : Kont) (n : Nat) (lg : Lg) (d : Option Nat) (tm : Tm) (hp : List Blk) (r : List D) (_ : Lock (f, k, lg, tm, hp, r)) : Prop :=
  match q with
  | some (p, v, id, b) => p ∧ free na ft [id] lg = true ∧ Dk x f k r (n + 1) ((n, [id], ft) :: lg) ⟨pt tm d v, hp.set id b⟩ .mk
  | none => False
theorem wstd_some (p : Prop) (v : Option AV) (id : Nat) (b : Blk) (ft na : List Nat) (k : Kont) (n : Nat) (lg : Lg) (d : Option Nat) (tm : Tm) (hp : List Blk) (r : List D) (l : Lock (f, k, lg, tm, hp, r)) :
    wstd x f (some (p, v, id, b)) ft na k n lg d tm hp r l = (p ∧ free na ft [id] lg = true ∧ Dk x f k r (n + 1) ((n, [id], ft) :: lg) ⟨pt tm d v, hp.set id b⟩ .mk) := rfl
def Sd (b : Bool) (ft na : List Nat) (k : Kont) (n : Nat) (lg : Lg) (d : Option Nat) (op : Op) (tm : Tm) (hp : List Blk) (r : List D) (_ : Lock (f, k, lg, tm, hp, r, op)) : Prop :=
  match b with
  | true => wstd x f (qw x.ti tm (lk hp) d op) ft na k n lg d tm hp r .mk
  | false => wqsd x f (callOf op) ft na k n lg d op tm hp r .mk
theorem Sd_true (ft na : List Nat) (k : Kont) (n : Nat) (lg : Lg) (d : Option Nat) (op : Op) (tm : Tm) (hp : List Blk) (r : List D) (l : Lock (f, k, lg, tm, hp, r, op)) :
    Sd x f true ft na k n lg d op tm hp r l = wstd x f (qw x.ti tm (lk hp) d op) ft na k n lg d tm hp r .mk := rfl
theorem Sd_false (ft na : List Nat) (k : Kont) (n : Nat) (lg : Lg) (d : Option Nat) (op : Op) (tm : Tm) (hp : List Blk) (r : List D) (l : Lock (f, k, lg, tm, hp, r, op)) :
    Sd x f false ft na k n lg d op tm hp r l = wqsd x f (callOf op) ft na k n lg d op tm hp r l := rfl
theorem wqd_of (na : List Nat) (k : Kont) (n : Nat) (lg : Lg) (d : Option Nat) (op : Op) (tm : Tm) (hp : List Blk) (r : List D) :
    wq x tm (lk hp) hp.length op (fun v us => free na (foot tm op) (fsts us) lg = true ∧ wdraw x r (n + 1) ((n, fsts us, foot tm op) :: lg) ⟨pt tm d (some v), upds hp us⟩ (runK x f k .n)) = wqsd x f (callOf op) (foot tm op) na k n lg d op tm hp r .mk := by
  unfold wq wqsd
  cases callOf op with
  | none => rfl
  | some p => rfl
theorem Dk_plain (na : List Nat) (k : Kont) (n : Nat) (lg : Lg) (d : Option Nat) (op : Op) (r : List D) (tm : Tm) (hp : List Blk) :
    Dk x f k (⟨⟨d, op, none⟩, na⟩ :: r) n lg ⟨tm, hp⟩ lf = Sd x f (isSt op) (foot tm op) na k n lg d op tm hp r .mk := by
  unfold Dk Sd
  rw [wdraw]
  simp only
  cases isSt op
  · simp only
    rw [wqd_of]
  · simp only [wstd]
    cases qw x.ti tm (lk hp) d op with
    | none => rfl
    | some p => rfl
def Gd (b : Bool) (P : Prop) (_ : Lock P) : Prop := b = false ∧ P
theorem Gd_false (P : Prop) (l : Lock P) : Gd false P l = P := by simp [Gd]
theorem Dk_guard (na : List Nat) (k : Kont) (n : Nat) (lg : Lg) (d : Option Nat) (op : Op) (t : Nat) (want : Bool) (r : List D) (tm : Tm) (hp : List Blk) :
    Dk x f k (⟨⟨d, op, some (t, want)⟩, na⟩ :: r) n lg ⟨tm, hp⟩ lf = Gd (isSt op) (wguard (gt tm t) want (Sd x f (isSt op) (foot tm op) na k n lg d op tm hp r .mk) (Dk x f k r (n + 1) lg ⟨pt tm d (some (.tup [])), hp⟩ lf) .mk .mk) .mk := by
  unfold Dk Sd Gd
  rw [wdraw]
  simp only
  cases isSt op
  · simp only [wqd_of, true_and]
    rfl
  · simp
end
theorem loop_k {x : Cx} {f : Ex → S → Prop} {k : Kont} {hd : S → S} {c : C} {α : Type} (F : α → S) (μ : α → Nat) (G : α → Prop)
    (step : ∀ a, G a → ∀ R : S → Prop, (∀ a' s, hd s = F a' → G a' → μ a' < μ a → R s) → Wk x (fun e s' => match e with | .n => R s' | e => Rk x f k e s' .mk) .base c (F a) .mk) {a : α} {s : S} {lb : Lock (W x c)} {lK : Lock (runK x f k)} (hs : hd s = F a) (ha : G a) :
    wloop hd (W x c) (runK x f k) s lb lK := loop_ind F μ G step hs ha
theorem loop_l {x : Cx} {f : Ex → S → Prop} {k : Kont} {ad : List (Nat × Nat)} {mk : List Nat} {c : C} {s : S} {l : Lock (f, k, c)} {α : Type} (F : α → S) (μ : α → Nat) (G : α → Prop)
    (a : α) (hs : hdL ad mk (adopt ad s) (adopt ad s) = F a) (ha : G a)
    (step : ∀ a, G a → ∀ R : S → Prop, (∀ a' s', hdL ad mk (adopt ad s) s' = F a' → G a' → μ a' < μ a → R s') → Wk x (fun e s' => match e with | .n => R s' | e => Rk x f k e s' .mk) .base c (F a) .mk) :
    Lk x f k ad mk c s l := loop_k F μ G step hs ha
theorem argsOK_nil (h : H) : argsOK h [] [] = True := by simp [argsOK]
theorem argsOK_cons (h : H) (v : AV) (vs : List AV) (y : T) (ys : List T) : argsOK h (v :: vs) (y :: ys) = (argOK h v y ∧ argsOK h vs ys) := by
  simp only [argsOK]
  refine propext ⟨fun ⟨a, b, e, h1, h2⟩ => ?_, fun ⟨h1, h2⟩ => ⟨y, ys, rfl, h1, h2⟩⟩
  simp only [List.cons.injEq] at e
  obtain ⟨rfl, rfl⟩ := e
  exact ⟨h1, h2⟩
theorem argCs_nil (h : H) : argCs h [] [] = True := by simp [argCs]
theorem argCs_cons (h : H) (v : AV) (vs : List AV) (y : T) (ys : List T) : argCs h (v :: vs) (y :: ys) = (arg1 h v y ∧ argCs h vs ys) := by
  simp only [argCs]
  refine propext ⟨fun ⟨a, b, e, h1, h2⟩ => ?_, fun ⟨h1, h2⟩ => ⟨y, ys, rfl, h1, h2⟩⟩
  simp only [List.cons.injEq] at e
  obtain ⟨rfl, rfl⟩ := e
  exact ⟨h1, h2⟩
theorem arg1_t (h : H) (x y : T) (l : Bool) : arg1 h (.t x l) y = (x = y) := rfl
theorem arg1_nl (h : H) (y : T) : arg1 h .nl y = (y = .sl [] ∨ y = .nl) := rfl
theorem arg1_e0 (h : H) (y : T) : arg1 h .e0 y = (y = .sl []) := rfl
def rowIs (r : Option (Nat × List (List T) × Bool)) (off len : Nat) (es : List (List T)) : Prop :=
  match r with
  | some (_, es', _) => off + len ≤ es'.length ∧ (es'.drop off).take len = es
  | none => False
theorem rowIs_some (z : Nat) (es' : List (List T)) (l : Bool) (off len : Nat) (es : List (List T)) : rowIs (some (z, es', l)) off len es = (off + len ≤ es'.length ∧ (es'.drop off).take len = es) := rfl
theorem arg1_row (h : H) (id ver off len : Nat) (es : List (List T)) : arg1 h (.row id ver off len) (.sl es) = rowIs (rowOf h id ver) off len es := by
  simp only [arg1, elems, rowIs]
  cases hr : rowOf h id ver with
  | none => simp
  | some r =>
    obtain ⟨z, es', l⟩ := r
    simp only
    by_cases hl : off + len ≤ es'.length
    · simp only [if_pos hl, hl, true_and]
      refine propext ⟨fun ⟨p, h1, h2⟩ => ?_, fun h2 => ⟨_, rfl, by rw [← h2]⟩⟩
      cases h1
      simp only [T.sl.injEq] at h2
      exact h2.symm
    · simp [hl]
def vsIs (r : Option (List AV)) (off len z : Nat) (es : List (List T)) : Prop :=
  match r with
  | some cs => match plains ((cs.drop off).take (len * z)) with
    | some (xs, _) => off + len * z ≤ cs.length ∧ len ≤ room ∧ 0 < z ∧ (∀ e ∈ chunk z len xs, e.length = z) ∧ es = chunk z len xs
    | none => False
  | none => False
theorem arg1_vs (h : H) (id off len z : Nat) (es : List (List T)) : arg1 h (.vs id off len z) (.sl es) = vsIs (varOf h id) off len z es := by
  simp only [arg1, elems, vsIs]
  cases varOf h id with
  | none => simp
  | some cs =>
    try simp only
    cases plains ((cs.drop off).take (len * z)) with
    | none => simp
    | some r =>
      obtain ⟨xs, l⟩ := r
      try simp only
      by_cases hl : off + len * z ≤ cs.length ∧ len ≤ room
      · simp only [if_pos hl, hl.1, hl.2, true_and]
        refine propext ⟨fun ⟨p, h1, h2, h3, h4⟩ => ?_, fun ⟨h2, h3, h4⟩ => ⟨_, rfl, h2, h3, by rw [h4]⟩⟩
        cases h1
        simp only [T.sl.injEq] at h4
        exact ⟨h2, h3, h4⟩
      · simp only [if_neg hl]
        refine propext ⟨fun ⟨p, h1, _⟩ => (by cases h1), fun ⟨h2, h3, _⟩ => (hl ⟨h2, h3⟩).elim⟩
def ptIs (r : Option (List AV)) (off : Nat) (ps : List T) : Prop :=
  match r with
  | some cs => match plains (cs.drop off) with
    | some (xs, _) => ps = xs
    | none => False
  | none => False
theorem arg1_ptr (h : H) (id off : Nat) (ps : List T) : arg1 h (.ptr id off) (.pt ps) = ptIs (varOf h id) off ps := by
  simp only [arg1, ptIs]
  cases varOf h id with
  | none => simp
  | some cs =>
    simp only [Option.some.injEq]
    cases hp : plains (cs.drop off) with
    | none =>
      try simp only
      refine propext ⟨fun ⟨cs', p, h1, h2, _⟩ => ?_, fun h => h.elim⟩
      subst h1
      rw [hp] at h2
      cases h2
    | some r =>
      obtain ⟨xs, l⟩ := r
      try simp only
      refine propext ⟨fun ⟨cs', p, h1, h2, h3⟩ => ?_, fun h => ⟨cs, _, rfl, hp, by rw [h]⟩⟩
      subst h1
      rw [hp] at h2
      simp only [Option.some.injEq] at h2
      subst h2
      simp only [T.pt.injEq] at h3
      exact h3
theorem argOK_t (h : H) (x y : T) (l : Bool) : argOK h (.t x l) y = (x = y) := rfl
theorem argOK_nl (h : H) (y : T) : argOK h .nl y = (y = .sl [] ∨ y = .nl) := rfl
theorem argOK_e0 (h : H) (y : T) : argOK h .e0 y = (y = .sl []) := rfl
theorem argOK_row (h : H) (id ver off len : Nat) (es : List (List T)) : argOK h (.row id ver off len) (.sl es) = rowIs (rowOf h id ver) off len es := arg1_row h id ver off len es
theorem argOK_vs (h : H) (id off len z : Nat) (es : List (List T)) : argOK h (.vs id off len z) (.sl es) = vsIs (varOf h id) off len z es := arg1_vs h id off len z es
theorem argOK_ptr (h : H) (id off : Nat) (ps : List T) : argOK h (.ptr id off) (.pt ps) = ptIs (varOf h id) off ps := arg1_ptr h id off ps
theorem argOK_agg (h : H) (cs : List AV) (p : List T) : argOK h (.agg cs) (.agg p) = argCs h cs p := by
  simp only [argOK]
  refine propext ⟨fun ⟨q, e, h1⟩ => ?_, fun h1 => ⟨p, rfl, h1⟩⟩
  simp only [T.agg.injEq] at e
  rw [e]; exact h1
theorem argOK_fn (h : H) (f g : Nat) (cs : List AV) (p : List T) : argOK h (.fn f cs) (.fn g p) = (f = g ∧ argCs h cs p) := by
  simp only [argOK, T.fn.injEq]
  refine propext ⟨fun ⟨q, e, h1⟩ => ?_, fun ⟨e, h1⟩ => ⟨p, ⟨e.symm, rfl⟩, h1⟩⟩
  obtain ⟨rfl, rfl⟩ := e
  exact ⟨rfl, h1⟩
theorem loose_t (x : T) (l : Bool) : AV.loose (.t x l) = false := rfl
theorem loose_nl : AV.loose .nl = false := rfl
theorem loose_e0 : AV.loose .e0 = false := rfl
theorem loose_row (id ver off len : Nat) : AV.loose (.row id ver off len) = true := rfl
theorem loose_vs (id off len z : Nat) : AV.loose (.vs id off len z) = true := rfl
theorem loose_ptr (id off : Nat) : AV.loose (.ptr id off) = true := rfl
theorem loose_fn0 (f : Nat) : AV.loose (.fn f []) = false := rfl
theorem spec_k {P : Program} {x : Cx} (hx : Hold P x) {f n : Nat} {fl : List Nat} {hs : List Hint} {C : C} {res : List ResultVar} (hB : Body P f fl hs C n res) {ts : List T} (r : List (T × Bool)) (hW : Wk x (retT x.ti res r) .base C (s0 ts n) .mk) : Spec P f ts [] (resV (r.map AV.ofT)) := spec_t hx hB r hW
def ends (hp : List Blk) (bs : List Blk) (rs vs : List AV) (_ : Lock (hp, bs)) : Prop := ∃ π, outB (lk hp) π bs ∧ outs2 (lk hp) π rs vs
theorem ends_mk {hp bs : List Blk} {rs vs : List AV} {l : Lock (hp, bs)} (π : List Nat) (h1 : outB (lk hp) π bs) (h2 : outs2 (lk hp) π rs vs) : ends hp bs rs vs l := ⟨π, h1, h2⟩
def endR (q : Option (Prop × List AV)) (hp : List Blk) (bs : List Blk) (rs : List AV) (_ : Lock (hp, bs, rs)) : Prop :=
  match q with
  | some (p, vs) => p ∧ ends hp bs rs vs .mk
  | none => False
theorem endR_some (p : Prop) (vs : List AV) (hp bs : List Blk) (rs : List AV) (l : Lock (hp, bs, rs)) : endR (some (p, vs)) hp bs rs l = (p ∧ ends hp bs rs vs .mk) := rfl
theorem retO_r (ti : Nat → Option TI) (res : List ResultVar) (bs : List Blk) (rs : List AV) (tm : Tm) (hp : List Blk) : retO ti res bs rs .r ⟨tm, hp⟩ = endR (resAV ti ⟨tm, hp⟩ res) hp bs rs .mk := by
  unfold retO endR ends
  rfl
theorem retO_n (ti : Nat → Option TI) (res : List ResultVar) (bs : List Blk) (rs : List AV) (tm : Tm) (hp : List Blk) : retO ti res bs rs .n ⟨tm, hp⟩ = endR (resAV ti ⟨tm, hp⟩ res) hp bs rs .mk := by
  unfold retO endR ends
  rfl
theorem outB_nil (h : H) : outB h [] [] = True := rfl
def outB1 : Option Blk → Blk → Prop
  | some (.row _ z es' l'), .row _ z2 es l => z = z2 ∧ es'.take es.length = es ∧ es.length ≤ es'.length ∧ (l = true → l' = true)
  | _, _ => False
theorem outB_cons (h : H) (id : Nat) (π : List Nat) (z : Nat) (es : List (List T)) (l : Bool) (bs : List Blk) : outB h (id :: π) (.row 0 z es l :: bs) = (outB1 (h id) (.row 0 z es l) ∧ id ∉ π ∧ outB h π bs) := by
  simp only [outB]
  refine propext ⟨fun ⟨⟨v, z', es0, es', l0, l', e1, e2, e3, e4, e5⟩, h2⟩ => ⟨?_, h2⟩, fun ⟨h1, h2⟩ => ⟨?_, h2⟩⟩
  · simp only [Blk.row.injEq, true_and] at e2
    obtain ⟨rfl, rfl, rfl⟩ := e2
    rw [e1]
    exact ⟨rfl, e3, e4, e5⟩
  · cases hh : h id with
    | none => rw [hh] at h1; exact h1.elim
    | some b =>
      rw [hh] at h1
      cases b with
      | row v z1 es1 l1 =>
        obtain ⟨rfl, h3, h4, h5⟩ := h1
        exact ⟨_, _, _, _, _, _, rfl, rfl, h3, h4, h5⟩
      | _ => exact h1.elim
theorem outB1_row (v z : Nat) (es' : List (List T)) (l' : Bool) (v2 z2 : Nat) (es : List (List T)) (l : Bool) : outB1 (some (.row v z es' l')) (.row v2 z2 es l) = (z = z2 ∧ es'.take es.length = es ∧ es.length ≤ es'.length ∧ (l = true → l' = true)) := rfl
theorem out1_row (h : H) (π : List Nat) (k vr off len id ver off' len' : Nat) : out1 h π (.row k vr off len) (.row id ver off' len') = (vr = 0 ∧ π[k]? = some id ∧ off' = off ∧ len' = len ∧ (rowOf h id ver).isSome = true) := by
  simp only [out1]
  refine propext ⟨fun ⟨id', ver', z, es, l, h0, h1, h2, h3⟩ => ?_, fun ⟨h0, h1, h2, h3, h4⟩ => ?_⟩
  · simp only [AV.row.injEq] at h2
    obtain ⟨rfl, rfl, rfl, rfl⟩ := h2
    exact ⟨h0, h1, rfl, rfl, by rw [h3]; rfl⟩
  · obtain ⟨⟨z, es, l⟩, hr⟩ := Option.isSome_iff_exists.1 h4
    subst h2; subst h3
    exact ⟨id, ver, z, es, l, h0, h1, rfl, hr⟩
theorem out1_nl (h : H) (π : List Nat) : out1 h π .nl .nl = True := eq_true rfl
def out1t (q : Option (T × Bool × List (Nat × Blk))) (x : T) (l : Bool) (π : List Nat) : Prop :=
  match q with
  | some (y, l', us) => y = x ∧ (l = true → l' = true) ∧ ∀ u ∈ us, u.1 ∉ π
  | none => False
theorem out1_t (h : H) (π : List Nat) (x : T) (l : Bool) (v : AV) : out1 h π (.t x l) v = out1t (emb2 h v) x l π := by
  simp only [out1, out1t]
  cases emb2 h v with
  | none => simp
  | some q =>
    obtain ⟨y, l', us⟩ := q
    simp only [Option.some.injEq, Prod.mk.injEq]
    refine propext ⟨fun ⟨_, _, ⟨e, e1, e2⟩, h1, h2⟩ => ⟨e, by rw [e1]; exact h1, by rw [e2]; exact h2⟩, fun ⟨e, h1, h2⟩ => ⟨_, _, ⟨e, rfl, rfl⟩, h1, h2⟩⟩
theorem out1t_some (y : T) (l' : Bool) (us : List (Nat × Blk)) (x : T) (l : Bool) (π : List Nat) : out1t (some (y, l', us)) x l π = (y = x ∧ (l = true → l' = true) ∧ ∀ u ∈ us, u.1 ∉ π) := rfl
theorem outs1_nil (h : H) (π : List Nat) : outs1 h π [] [] = True := rfl
theorem outs1_cons (h : H) (π : List Nat) (r v : AV) (rs vs : List AV) : outs1 h π (r :: rs) (v :: vs) = (out1 h π r v ∧ outs1 h π rs vs) := rfl
theorem outs2_nil (h : H) (π : List Nat) : outs2 h π [] [] = True := rfl
theorem outs2_cons (h : H) (π : List Nat) (r v : AV) (rs vs : List AV) : outs2 h π (r :: rs) (v :: vs) = (out2 h π r v ∧ outs2 h π rs vs) := rfl
theorem out2_agg (h : H) (π : List Nat) (rs cs : List AV) : out2 h π (.agg rs) (.agg cs) = outs1 h π rs cs := by
  simp only [out2]
  refine propext ⟨fun ⟨_, e, h1⟩ => ?_, fun h1 => ⟨_, rfl, h1⟩⟩
  cases e; exact h1
theorem out2_t (h : H) (π : List Nat) (x : T) (l : Bool) (v : AV) : out2 h π (.t x l) v = out1t (emb2 h v) x l π := out1_t h π x l v
theorem out2_nl (h : H) (π : List Nat) : out2 h π .nl .nl = True := eq_true rfl
theorem out2_row (h : H) (π : List Nat) (k vr off len id ver off' len' : Nat) : out2 h π (.row k vr off len) (.row id ver off' len') = (vr = 0 ∧ π[k]? = some id ∧ off' = off ∧ len' = len ∧ (rowOf h id ver).isSome = true) := out1_row ..
theorem flagOf_true (xs : List (List T)) : flagOf xs true = true := rfl
theorem flagOf_false (xs : List (List T)) : flagOf xs false = flats xs := rfl
theorem flats_bT (bs : List (BitVec 8)) : flats (bT bs) = true := by
  induction bs with
  | nil => rfl
  | cons b bs ih => exact ih
theorem flats_append (xs ys : List (List T)) : flats (xs ++ ys) = (flats xs && flats ys) := by
  induction xs with
  | nil => rfl
  | cons x xs ih => simp [flats, ih, Bool.and_assoc]
theorem flats_sub {xs : List (List T)} (h : flats xs = true) {ys : List (List T)} (hs : ∀ y ∈ ys, y ∈ xs) : flats ys = true := by
  induction ys with
  | nil => rfl
  | cons y ys ih =>
    simp only [flats, Bool.and_eq_true]
    refine ⟨?_, ih fun z hz => hs z (List.mem_cons_of_mem _ hz)⟩
    obtain ⟨i, hi⟩ := List.getElem?_of_mem (hs y (by simp))
    exact List.all_eq_true.2 (flats_get h hi)
theorem flats_take (n : Nat) (bs : List (BitVec 8)) : flats (List.take n (bT bs)) = true := flats_sub (flats_bT bs) fun _ => List.mem_of_mem_take
theorem flats_drop (n : Nat) (bs : List (BitVec 8)) : flats (List.drop n (bT bs)) = true := flats_sub (flats_bT bs) fun _ => List.mem_of_mem_drop
theorem flats_take_drop (n k : Nat) (bs : List (BitVec 8)) : flats (List.take n (List.drop k (bT bs))) = true := flats_sub (flats_bT bs) fun _ h => List.mem_of_mem_drop (List.mem_of_mem_take h)
attribute [go_sem] flagOf_true flagOf_false flats_bT flats_append flats_take flats_drop flats_take_drop flats T.flat
attribute [go_sem ↓] retO_r retO_n
attribute [go_sem] endR_some outB_nil outB_cons outB1_row out1_row out1_nl out1_t out1t_some outs1_nil outs1_cons outs2_nil outs2_cons out2_agg out2_t out2_nl out2_row
theorem spec_ko {P : Program} {x : Cx} (hx : Hold P x) {f n : Nat} {fl : List Nat} {hs : List Hint} {C : C} {res : List ResultVar} (hB : Body P f fl hs C n res) {ts : List T} (bs : List Blk) (rs : List AV) (hW : Wk x (retO x.ti res bs rs) .base C (s0 ts n) .mk)
    (hok : ok3 (resV rs) = true := by rfl) (hbs : ∀ b ∈ bs, ∃ z es l, b = .row 0 z es l := by simp) : Spec P f ts bs (resV rs) := spec_o hx hB bs rs hok hW hbs
def tmL : List (Nat × AV) → Tm
  | [] => nilT
  | (t, v) :: r => up (tmL r) t (some v)
attribute [go_sem ↓] Wk_skip Wk_label Wk_reg Wk_seq Wk_cond Wk_block Wk_loop Wk_exit Wk_ret Wk_goto Wk_keep Wk_draw Wk_sem Wk_lsem Wk_scope Rk_base Rk_seq_n Rk_seq_x Rk_seq_r Rk_seq_g Rk_block_n Rk_block_r Rk_block_g Rk_block_x Ok_nil Ok_plain Ok_guard Dk_nil Dk_plain Dk_guard wupk_nil wupd_nil pt q ev evs gt_up gt_ofL retT_r retT_n retT_x retR_r
attribute [go_sem] Nk_eq Sk_true Sk_false wqsk_some wqsk_none wqvk_some wqck_fn wstk_some wupk_cons wguard_b wguard_u wguard1_b Sd_true Sd_false wqsd_some wqsd_none wqvd_some wqcd_fn wstd_some wupd_cons wlog_eq foot AV.ids AV.id1 AV.id2 id1s id2s idsO idsOs idsPs inN offN free fsts tmL nilT Gd_false restr restrB belowO below cut toT toT1 belowV cutB varB hdL mvS mvs mv1 mv2 isSt qst qEmSt qw qStore qCopy callOf okR atT atA partA partT qLoad qIxA qSlice qAppend qGrow T.one cut3 bound lk cAV cT cTs zAV upds upd1 isAgg List.getElem?_cons_zero List.getElem?_cons_succ List.getElem?_nil Option.getD_some Option.getD_none Option.isSome_some List.set_cons_zero List.set_cons_succ List.map_cons List.map_nil List.append_nil List.nil_append List.cons_append List.take_length AV.pureT plains AV.plain binT binI unT elemOfS elemOfA fieldOf placeOf fills fillS embs emb elems rowOf varOf AV.cells List.length_cons List.length_nil List.length_set List.map_replicate Int.natCast_nonneg true_and and_true wcond_true wcond_false Bool.and_true Bool.true_and Nat.not_lt_zero IntKind.bits Nat.zero_le Nat.lt_irrefl Nat.le_refl and_self List.drop_zero List.drop_succ_cons List.take_succ_cons List.take_zero List.mem_cons List.not_mem_nil or_false forall_eq_or_imp forall_eq List.set_nil forall_const false_or implies_true ofInt_toNat wrap32 wrap8 wrap64 wrap32_8 wrap8_32 fdiv_shr mul_shl32 neg32 add32 not32 not32' bT_length Nat.sub_zero resAV sees emb2 resV AV.ofT number AV.sh AV.sh1 AV.sh2 qLen lenOf qBuiltin Option.map_some Option.map_none Int.toNat_natCast Nat.add_zero Nat.zero_add beq_self_eq_true decide_true decide_false ne_eq not_true not_false_eq_true Bool.not_true Bool.not_false beq_iff_eq Bool.true_eq_false Bool.false_eq_true Nat.min_eq_left IntKind.signed T.isI aggOK Bool.true_beq Bool.false_beq rep0 rep1 rep2 rep3 rep4 rep5 rep6 rep7 rep8 rep9 rep10 rep11 rep12 argsOK_nil argsOK_cons argCs_nil argCs_cons arg1_t arg1_nl arg1_e0 arg1_row arg1_vs arg1_ptr argOK_t argOK_nl argOK_e0 argOK_row argOK_vs argOK_ptr argOK_agg argOK_fn rowIs_some vsIs ptIs loose_t loose_nl loose_e0 loose_row loose_vs loose_ptr loose_fn0 AV.fresh List.any_cons List.any_nil List.all_cons List.all_nil Bool.or_false Bool.false_or Bool.or_true Bool.true_or Bool.and_false Bool.false_and s0 arg0 adopt adoptC cellOf built chunk setAt List.flatten_cons List.flatten_nil Blk.fresh AV.easy
theorem unI {c d : List I} (h : c = d) (x : Cx) (f : Ex → S → Prop) (lf : Lock f) (k : Kont) (s : S) : Ok x f k c s lf = Ok x f k d s lf := by rw [h]
theorem unD {c d : List D} (h : c = d) (x : Cx) (f : Ex → S → Prop) (lf : Lock f) (k : Kont) (n : Nat) (lg : Lg) (s : S) : Dk x f k c n lg s lf = Dk x f k d n lg s lf := by rw [h]
theorem unC {c d : C} (h : c = d) (x : Cx) (f : Ex → S → Prop) (lf : Lock f) (k : Kont) (s : S) : Wk x f k c s lf = Wk x f k d s lf := by rw [h]
theorem nilQ_t (o : BinOp) (u : AV) (x : T) (l : Bool) : nilQ o u (.t x l) = none := rfl
theorem nilQ_agg (o : BinOp) (u : AV) (cs : List AV) : nilQ o u (.agg cs) = none := rfl
theorem nilQ_nl (o : BinOp) (u : AV) : nilQ o u .nl = nilU o u := rfl
theorem nilU_nl1 : nilU .eql .nl = some true := rfl
theorem nilU_nl2 : nilU .neq .nl = some false := rfl
theorem nilU_ne1 (l : Bool) : nilU .eql (.t .ne l) = some false := rfl
theorem nilU_ne2 (l : Bool) : nilU .neq (.t .ne l) = some true := rfl
theorem nilU_sl1 (e : List T) (es : List (List T)) (l : Bool) : nilU .eql (.t (.sl (e :: es)) l) = some false := rfl
theorem nilU_sl2 (e : List T) (es : List (List T)) (l : Bool) : nilU .neq (.t (.sl (e :: es)) l) = some true := rfl
theorem one1 (k : IntKind) (n : Int) (l : Bool) : (AV.t (.i k n) l).one = True := rfl
theorem one2 (x : Bool) (l : Bool) : (AV.t (.b x) l).one = True := rfl
theorem one3 (x : ByteArray) (l : Bool) : (AV.t (.s x) l).one = True := rfl
theorem one4 (es : List (List T)) (l : Bool) : (AV.t (.sl es) l).one = True := rfl
theorem one5 : AV.nl.one = True := rfl
theorem one6 : AV.e0.one = True := rfl
theorem one7 (id ver off len : Nat) : (AV.row id ver off len).one = True := rfl
theorem one8 (id off : Nat) : (AV.ptr id off).one = True := rfl
theorem one9 (id off len z : Nat) : (AV.vs id off len z).one = True := rfl
theorem oneT1 (k : IntKind) (n : Int) : (T.i k n).one = True := rfl
theorem oneT2 (x : Bool) : (T.b x).one = True := rfl
theorem oneT3 (x : ByteArray) : (T.s x).one = True := rfl
theorem oneT4 (es : List (List T)) : (T.sl es).one = True := rfl
theorem oneT5 (cs : List T) : (T.pt cs).one = True := rfl
theorem loose_agg0 : (AV.agg []).loose = false := rfl
theorem loose_agg1 (x : T) (l : Bool) (vs : List AV) : (AV.agg (.t x l :: vs)).loose = (AV.agg vs).loose := by simp [AV.loose]
theorem loose_agg2 (vs : List AV) : (AV.agg (.nl :: vs)).loose = (AV.agg vs).loose := by simp [AV.loose]
theorem loose_agg3 (vs : List AV) : (AV.agg (.e0 :: vs)).loose = (AV.agg vs).loose := by simp [AV.loose]
theorem loose_agg4 (id ver off len : Nat) (vs : List AV) : (AV.agg (.row id ver off len :: vs)).loose = true := by simp [AV.loose]
attribute [go_sem] loose_agg0 loose_agg1 loose_agg2 loose_agg3 loose_agg4
attribute [go_sem] nilQ_t nilQ_agg nilQ_nl nilU_nl1 nilU_nl2 nilU_ne1 nilU_ne2 nilU_sl1 nilU_sl2 s1 false_implies one1 one2 one3 one4 one5 one6 one7 one8 one9 oneT1 oneT2 oneT3 oneT4 oneT5 tree1 tree1s tree2 tree2s tree3
theorem call_k {x : Cx} {f : Ex → S → Prop} {k : Kont} {d : Option Nat} {tm : Tm} {hp : List Blk} {r : List I} {g : Nat} {as : List AV} {l : Lock (f, k, tm, r)} {ts : List T} {bs : List Blk} {v : AV} (hs : x.spec g ts bs v)
    (hk : wupk x f (number hp.length bs) k (pt tm d (some (v.sh hp.length))) hp r .mk)
    (ha : argsOK (lk hp) as ts := by simp -implicitDefEqProofs only [go_sem, reduceIte, Nat.reduceAdd, Nat.reduceSub, Nat.reduceMul, Nat.reduceLT, Nat.reduceLeDiff, Nat.reduceEqDiff, Nat.reduceBEq, Int.reduceLE, Int.reduceLT, Int.reduceToNat, Int.reduceMul, Int.reduceAdd, Int.reduceSub, Int.reduceNeg, Int.reduceEq, reduceCtorEq, Nat.reduceMod])
    (hl : as.any AV.loose = true → v.fresh = true ∧ bs.all Blk.fresh = true := by simp -implicitDefEqProofs only [go_sem, reduceIte, Nat.reduceAdd, Nat.reduceSub, Nat.reduceMul, Nat.reduceLT, Nat.reduceLeDiff, Nat.reduceEqDiff, Nat.reduceBEq, Int.reduceLE, Int.reduceLT, Int.reduceToNat, Int.reduceMul, Int.reduceAdd, Int.reduceSub, Int.reduceNeg, Int.reduceEq, reduceCtorEq, Nat.reduceMod]) : wcallk x f k d tm hp r g as l :=
  wcall_mk ts bs v hs ha hl hk
theorem call_d {x : Cx} {f : Ex → S → Prop} {ft na : List Nat} {k : Kont} {n : Nat} {lg : Lg} {d : Option Nat} {tm : Tm} {hp : List Blk} {r : List D} {g : Nat} {as : List AV} {l : Lock (f, k, lg, tm, r)} {ts : List T} {bs : List Blk} {v : AV} (hs : x.spec g ts bs v)
    (hk : wlog x f (fsts (number hp.length bs)) ft (number hp.length bs) na k n lg (pt tm d (some (v.sh hp.length))) hp r .mk)
    (ha : argsOK (lk hp) as ts := by simp -implicitDefEqProofs only [go_sem, reduceIte, Nat.reduceAdd, Nat.reduceSub, Nat.reduceMul, Nat.reduceLT, Nat.reduceLeDiff, Nat.reduceEqDiff, Nat.reduceBEq, Int.reduceLE, Int.reduceLT, Int.reduceToNat, Int.reduceMul, Int.reduceAdd, Int.reduceSub, Int.reduceNeg, Int.reduceEq, reduceCtorEq, Nat.reduceMod])
    (hl : as.any AV.loose = true → v.fresh = true ∧ bs.all Blk.fresh = true := by simp -implicitDefEqProofs only [go_sem, reduceIte, Nat.reduceAdd, Nat.reduceSub, Nat.reduceMul, Nat.reduceLT, Nat.reduceLeDiff, Nat.reduceEqDiff, Nat.reduceBEq, Int.reduceLE, Int.reduceLT, Int.reduceToNat, Int.reduceMul, Int.reduceAdd, Int.reduceSub, Int.reduceNeg, Int.reduceEq, reduceCtorEq, Nat.reduceMod]) : wcalld x f ft na k n lg d tm hp r g as l :=
  wcall_mk ts bs v hs ha hl hk
theorem sk : (∀ n : Nat, ((OfNat.ofNat n : Nat) : Int) = OfNat.ofNat n) ∧ (((0 : Nat) : Int) = 0) ∧ (((1 : Nat) : Int) = 1) ∧ (∀ (α : Type) [BEq α] [LawfulBEq α] (a : α), (a != a) = false) ∧ (∀ a b : Int, (a > b) = (b < a)) ∧ (∀ a b : Int, (a ≥ b) = (b ≤ a)) ∧ (∀ a b : Nat, (a > b) = (b < a)) ∧ (∀ a b : Nat, (a ≥ b) = (b ≤ a)) ∧ (∀ a : Int, (a < a) = False) ∧ (∀ a : Int, (a ≤ a) = True) :=
  ⟨fun n => rfl, rfl, rfl, fun α _ _ a => bne_self_eq_false a, fun a b => rfl, fun a b => rfl, fun a b => rfl, fun a b => rfl, fun a => eq_false (Int.lt_irrefl a), fun a => eq_true (Int.le_refl a)⟩
end Go.Proofs.YtgkmhmhbepfiaaaDoor.Pm
set_option linter.all false
namespace Go.Proofs.YtgkmhmhbepfiaaaDoor.Pm
open Go Go.RowKit
def LN (x : Cx) (f : Ex → S → Prop) (k : Kont) (hd : S → S) (c : C) (n : Nat) (s : S) : Prop := rounds hd (W x c) (runK x f k) n s
theorem loop_u {x : Cx} {f : Ex → S → Prop} {k : Kont} {ad : List (Nat × Nat)} {mk : List Nat} {c : C} {s : S} {l : Lock (f, k, c)} (n : Nat)
    (h : LN x f k (hdL ad mk (adopt ad s)) c n (adopt ad s)) : Lk x f k ad mk c s l := ⟨n, h⟩
theorem ln_step {x : Cx} {f : Ex → S → Prop} {k : Kont} {hd : S → S} {c : C} {n : Nat} {s s1 : S} (e : hd s = s1)
    (h : ∀ R : S → Prop, (∀ s', LN x f k hd c n s' → R s') → Wk x (fun e s' => match e with | .n => R s' | e => Rk x f k e s' .mk) .base c s1 .mk) : LN x f k hd c (n + 1) s := by
  subst e
  exact h (LN x f k hd c n) (fun _ h => h)
theorem wr_0 : IntKind.i64.wrap 0 = 0 := by decide
theorem wr_1 : IntKind.i64.wrap 1 = 1 := by decide
theorem wr_2 : IntKind.i64.wrap 2 = 2 := by decide
theorem wr_3 : IntKind.i64.wrap 3 = 3 := by decide
theorem wr_4 : IntKind.i64.wrap 4 = 4 := by decide
theorem wr_5 : IntKind.i64.wrap 5 = 5 := by decide
theorem wr_6 : IntKind.i64.wrap 6 = 6 := by decide
theorem wr_7 : IntKind.i64.wrap 7 = 7 := by decide
theorem wr_8 : IntKind.i64.wrap 8 = 8 := by decide
attribute [go_sem] wr_0 wr_1 wr_2 wr_3 wr_4 wr_5 wr_6 wr_7 wr_8
end Go.Proofs.YtgkmhmhbepfiaaaDoor.Pm
set_option linter.all false
namespace Go.Proofs.YtgkmhmhbepfiaaaDoor.Pm
open Go Go.RowKit Go.ChangeShapes Go.WideShapes Go.ChangeAt
def contig (P : Program) : Nat → List Field → Option Nat
  | o, [] => some o
  | o, f :: fs => if f.offset = o then contig P (o + P.cellsOf f.type) fs else none
def plainTy (P : Program) : Nat → TypeId → Bool
  | 0, _ => false
  | d + 1, t => match P.underlying t with
    | some .bool | some (.int _) | some .string => true
    | some (.slice e) => decide (0 < P.cellsOf e) && decide (0 < P.bytesOf e) && plainTy P d e
    | some (.struct fs) => decide (contig P 0 fs.toList = some (P.cellsOf t)) && fs.toList.all fun f => plainTy P d f.type
    | some (.array n e) => decide (n * P.cellsOf e = P.cellsOf t) && plainTy P d e
    | _ => false
def All2 {α β : Type} (R : α → β → Prop) : List α → List β → Prop
  | [], [] => True
  | a :: as, b :: bs => R a b ∧ All2 R as bs
  | _, _ => False
theorem all2_cons {α β : Type} {R : α → β → Prop} {a : α} {as : List α} {xs : List β} (h : All2 R (a :: as) xs) : ∃ x xs', xs = x :: xs' ∧ R a x ∧ All2 R as xs' := by
  cases xs with
  | nil => exact h.elim
  | cons x xs' => exact ⟨x, xs', rfl, h⟩
theorem all2_nil {α β : Type} {R : α → β → Prop} {xs : List β} (h : All2 R [] xs) : xs = [] := by
  cases xs with
  | nil => rfl
  | cons x xs' => exact h.elim
def Fits (P : Program) : Nat → TypeId → List T → Prop
  | 0, _, _ => False
  | d + 1, t, xs => match P.underlying t with
    | some .bool => ∃ b, xs = [.b b]
    | some (.int k) => ∃ n, xs = [.i k n] ∧ k.min ≤ n ∧ n ≤ k.max
    | some .string => ∃ s, xs = [.s s]
    | some (.slice e) => ∃ es, xs = [.sl es] ∧ es.length ≤ room ∧ ∀ x ∈ es, Fits P d e x
    | some (.struct fs) => ∃ ps, xs = ps.flatten ∧ All2 (fun (f : Field) p => Fits P d f.type p) fs.toList ps
    | some (.array n e) => ∃ ps : List (List T), xs = ps.flatten ∧ ps.length = n ∧ ∀ p ∈ ps, Fits P d e p
    | _ => False
def Reps (w : World) (cs : List Value) (xs : List T) : Prop := xs.length = cs.length ∧ ∀ (j : Nat) (v : Value) (y : T), cs[j]? = some v → xs[j]? = some y → Rep w (fun b => b < w.heap.size) v y
theorem Reps.nil {w : World} : Reps w [] [] := ⟨rfl, by simp⟩
theorem Reps.one {w : World} {v : Value} {y : T} (h : Rep w (fun b => b < w.heap.size) v y) : Reps w [v] [y] := ⟨rfl, fun j u z hu hz => by
  cases j with
  | zero => simp at hu hz; subst hu; subst hz; exact h
  | succ j => simp at hu⟩
theorem Reps.append {w : World} {cs cs' : List Value} {xs xs' : List T} (h : Reps w cs xs) (h' : Reps w cs' xs') : Reps w (cs ++ cs') (xs ++ xs') := by
  refine ⟨by simp [h.1, h'.1], fun j v y hv hy => ?_⟩
  rcases Nat.lt_or_ge j cs.length with hl | hl
  · rw [List.getElem?_append_left hl] at hv
    rw [List.getElem?_append_left (by rw [h.1]; exact hl)] at hy
    exact h.2 j v y hv hy
  · rw [List.getElem?_append_right hl] at hv
    rw [List.getElem?_append_right (by rw [h.1]; exact hl), h.1] at hy
    exact h'.2 _ v y hv hy
theorem cells_get {w : World} {base : Nat} {a : Addr} {n : Nat} {cs : List Value} (h : w.cells? base a n = some cs) : cs.length = n ∧ ∀ j v, cs[j]? = some v → w.cell? (a.add j) = some v := by
  unfold World.cells? at h
  split at h
  · have hl : cs.length = n := by simpa using mapM_some_length h
    refine ⟨hl, fun j v hv => ?_⟩
    have hj : j < n := by have := (List.getElem?_eq_some_iff.1 hv).1; omega
    have := mapM_some_get h j j (by simp [hj])
    rw [this, hv]
  · cases h
section
variable {H : Type} {enc : TypeId × Value → H} {P : Program} {w : World} {sp : Nat → Bool} {hd : Bool}
theorem cells_lt {a : Addr} {v : Value} (hc : w.cell? a = some v) : a.block < w.heap.size := by
  rcases Nat.lt_or_ge a.block w.heap.size with h | h
  · exact h
  · simp [World.cell?, Array.getElem?_eq_none h] at hc
theorem weights_slice {t e : TypeId} (A B : List (DataW H)) (hu : P.underlying t = some (.slice e)) : DataW.weights P t (.slice A B) = (A.length + B.length) * P.bytesOf e :: (DataW.weightsAll P e A ++ DataW.weightsAll P e B) := by
  simp [DataW.weights, hu]
theorem weights_struct {t : TypeId} {fs : Array Field} (A : List (DataW H)) (hu : P.underlying t = some (.struct fs)) : DataW.weights P t (.agg A) = DataW.weightsEach P (fs.toList.map (·.type)) A := by
  simp [DataW.weights, hu]
theorem weights_array {t e : TypeId} {n : Nat} (A : List (DataW H)) (hu : P.underlying t = some (.array n e)) : DataW.weights P t (.agg A) = DataW.weightsAll P e A := by
  simp [DataW.weights, hu]
theorem weightsAll_mem {e : TypeId} : ∀ {ds : List (DataW H)} {x : DataW H}, x ∈ ds → ∀ n ∈ x.weights P e, n ∈ DataW.weightsAll P e ds
  | d :: r, x, hx, n, hn => by
    simp only [DataW.weightsAll, List.mem_append]
    rcases List.mem_cons.1 hx with rfl | hx
    · exact .inl hn
    · exact .inr (weightsAll_mem hx n hn)
theorem read_fields (d : Nat) (n : Nat) (cs : List Value) (ih : ∀ (t : TypeId) (cs : List Value) (x : DataW H × List MemPlace), plainTy P d t = true → DataW.trod enc P w 0 sp hd n t cs = some x → (∀ k ∈ x.1.weights P t, k ≤ reachBytes) → ∃ xs, Fits P d t xs ∧ Reps w cs xs) :
    ∀ (fs : List Field) (o q : Nat), contig P o fs = some q → q ≤ cs.length → (fs.all fun f => plainTy P d f.type) = true → (∀ f ∈ fs, ∃ x, DataW.trod enc P w 0 sp hd n f.type ((cs.drop f.offset).take (P.cellsOf f.type)) = some x ∧ ∀ k ∈ x.1.weights P f.type, k ≤ reachBytes) →
      o ≤ q ∧ ∃ ps, All2 (fun (f : Field) p => Fits P d f.type p) fs ps ∧ Reps w ((cs.drop o).take (q - o)) ps.flatten
  | [], o, q, hc, hq, _, _ => by
    simp only [contig, Option.some.injEq] at hc
    subst hc
    exact ⟨Nat.le_refl _, [], trivial, by simp; exact Reps.nil⟩
  | f :: fs, o, q, hc, hq, hp, hx => by
    simp only [contig] at hc
    split at hc
    · rename_i ho
      simp only [List.all_cons, Bool.and_eq_true] at hp
      obtain ⟨h1, ps, h2, h3⟩ := read_fields d n cs ih fs _ q hc hq hp.2 (fun g hg => hx g (List.mem_cons_of_mem _ hg))
      obtain ⟨x, hx1, hx2⟩ := hx f (List.mem_cons_self ..)
      obtain ⟨xs, g1, g2⟩ := ih _ _ _ hp.1 hx1 hx2
      refine ⟨by omega, xs :: ps, ⟨g1, h2⟩, ?_⟩
      have e : (cs.drop o).take (q - o) = (cs.drop f.offset).take (P.cellsOf f.type) ++ (cs.drop (o + P.cellsOf f.type)).take (q - (o + P.cellsOf f.type)) := by
        rw [ho, show q - o = P.cellsOf f.type + (q - (o + P.cellsOf f.type)) by omega, List.take_add, List.drop_drop]
      rw [e, List.flatten_cons]
      exact g2.append h3
    · cases hc
theorem read_parts (d z : Nat) (cs : List Value) (F : Nat → List T → Prop) : ∀ (n k : Nat), (∀ i, i < n → ∃ xs, F i xs ∧ Reps w ((cs.drop ((k + i) * z)).take z) xs) → (k + n) * z ≤ cs.length →
    ∃ ps : List (List T), ps.length = n ∧ (∀ i p, ps[i]? = some p → F i p) ∧ Reps w ((cs.drop (k * z)).take (n * z)) ps.flatten
  | 0, k, _, _ => ⟨[], rfl, by simp, by simp; exact Reps.nil⟩
  | n + 1, k, h, hl => by
    obtain ⟨xs, h1, h2⟩ := h 0 (by omega)
    obtain ⟨ps, g1, g2, g3⟩ := read_parts d z cs (fun i => F (i + 1)) n (k + 1) (fun i hi => by
      obtain ⟨ys, e1, e2⟩ := h (i + 1) (by omega)
      exact ⟨ys, e1, by rw [show k + 1 + i = k + (i + 1) by omega]; exact e2⟩) (by rw [show k + 1 + n = k + (n + 1) by omega]; exact hl)
    refine ⟨xs :: ps, by simp [g1], fun i p hp => ?_, ?_⟩
    · cases i with
      | zero => simp at hp; subst hp; exact h1
      | succ i => exact g2 i p (by simpa using hp)
    · have e : (cs.drop (k * z)).take ((n + 1) * z) = (cs.drop ((k + 0) * z)).take z ++ (cs.drop ((k + 1) * z)).take (n * z) := by
        rw [show k + 0 = k from rfl, show (n + 1) * z = z + n * z by rw [Nat.add_mul]; omega, List.take_add, List.drop_drop, show k * z + z = (k + 1) * z by rw [Nat.add_mul]; omega]
      rw [e, List.flatten_cons]
      exact h2.append g3
theorem read : ∀ (d n : Nat) (t : TypeId) (cs : List Value) (x : DataW H × List MemPlace), plainTy P d t = true → DataW.trod enc P w 0 sp hd n t cs = some x → (∀ k ∈ x.1.weights P t, k ≤ reachBytes) → ∃ xs, Fits P d t xs ∧ Reps w cs xs
  | 0, _, _, _, _, hp, _, _ => by simp [plainTy] at hp
  | d + 1, n, t, cs, x, hp, hx, hwt => by
    simp only [plainTy] at hp
    unfold Fits
    cases hu : P.underlying t with
    | none => rw [hu] at hp; cases hp
    | some td =>
      rw [hu] at hp
      try simp only at hp ⊢
      cases td <;> simp only [Bool.false_eq_true] at hp
      case bool =>
        obtain ⟨b, rfl, _⟩ := DataW.trod_bool hu hx
        exact ⟨_, ⟨b, rfl⟩, Reps.one (.b b)⟩
      case int k =>
        obtain ⟨m, rfl, _, hw⟩ := DataW.trod_int hu hx
        simp only [Lit.wf, Bool.and_eq_true, decide_eq_true_eq] at hw
        exact ⟨_, ⟨m, rfl, hw⟩, Reps.one (.i k m)⟩
      case string =>
        obtain ⟨s, rfl, _⟩ := DataW.trod_string hu hx
        exact ⟨_, ⟨s, rfl⟩, Reps.one (.s s)⟩
      case slice e =>
        simp only [Bool.and_eq_true, decide_eq_true_eq] at hp
        obtain ⟨⟨hp0, hpb⟩, hp⟩ := hp
        rcases DataW.trod_slice hu hx with ⟨rfl, _⟩ | ⟨a, len, cap, elems, rest, m, rfl, rfl, rfl, _, hlc, hcm, rfl, hget, _, _⟩
        · exact ⟨_, ⟨[], rfl, by simp, by simp⟩, Reps.one (Rep.nilslice _)⟩
        · have hall : ∀ i, i < elems.length → ∃ vs xs, w.cells? 0 (a.add (i * P.cellsOf e)) (P.cellsOf e) = some vs ∧ Fits P d e xs ∧ Reps w vs xs := fun i hi => by
            have h1 := hget i hi
            have hlt : i < elems.length := hi
            rw [List.getElem?_eq_getElem hlt] at h1
            simp only [Option.bind_eq_some_iff] at h1
            obtain ⟨vs, h2, h3⟩ := h1
            obtain ⟨xs, h4, h5⟩ := read d m e vs _ hp h3 (fun k hk => hwt k (by rw [weights_slice _ _ hu]; exact List.mem_cons_of_mem _ (List.mem_append_left _ (weightsAll_mem (List.mem_map_of_mem (List.getElem_mem hlt)) k hk))))
            exact ⟨vs, xs, h2, h4, h5⟩
          have hch : ∃ f : Nat → List Value × List T, ∀ i, i < elems.length → w.cells? 0 (a.add (i * P.cellsOf e)) (P.cellsOf e) = some (f i).1 ∧ Fits P d e (f i).2 ∧ Reps w (f i).1 (f i).2 := by
            refine ⟨fun i => if h : i < elems.length then (Classical.choose (hall i h), Classical.choose (Classical.choose_spec (hall i h))) else ([], []), fun i hi => ?_⟩
            simp only [dif_pos hi]
            exact Classical.choose_spec (Classical.choose_spec (hall i hi))
          obtain ⟨f, hf⟩ := hch
          have hr : elems.length ≤ room := by
            have h1 := hwt _ (by rw [weights_slice _ _ hu]; exact List.mem_cons_self ..)
            rw [List.length_map] at h1
            have h2 := Nat.le_mul_of_pos_right (elems.length + (rest.map (·.1)).length) hpb
            unfold reachBytes at h1
            unfold room
            omega
          refine ⟨_, ⟨(List.range elems.length).map fun i => (f i).2, rfl, by rw [List.length_map, List.length_range]; exact hr, fun y hy => ?_⟩, Reps.one ?_⟩
          · simp only [List.mem_map, List.mem_range] at hy
            obtain ⟨i, hi, rfl⟩ := hy
            exact (hf i hi).2.1
          · have hgetr : ∀ (i : Nat) (y : List T), ((List.range elems.length).map fun i => (f i).2)[i]? = some y → i < elems.length ∧ y = (f i).2 := fun i y hy => by
              rw [List.getElem?_map] at hy
              simp only [Option.map_eq_some_iff] at hy
              obtain ⟨j, hj, rfl⟩ := hy
              obtain ⟨hlt, rfl⟩ := List.getElem?_eq_some_iff.1 hj
              simp at hlt
              simp [hlt]
            have hlens : ∀ i, i < elems.length → (f i).1.length = P.cellsOf e ∧ (f i).2.length = P.cellsOf e := fun i hi => by
              obtain ⟨h1, h2, h3⟩ := hf i hi
              have := (cells_get h1).1
              exact ⟨this, by rw [h3.1]; exact this⟩
            refine .sl (some a) _ cap _ (P.cellsOf e) (fun i j => ((f i).1[j]?).getD undef) (by simp) hlc hr (fun e => by cases e) (fun i y hy => ?_) (fun h0 => ⟨a, rfl, ?_, fun i j hi hj => ?_⟩) (fun i j y z hy hz => ?_)
            · obtain ⟨hi, rfl⟩ := hgetr i y hy
              exact (hlens i hi).2
            · obtain ⟨h1, _, _⟩ := hf 0 h0
              obtain ⟨h2, h3⟩ := cells_get h1
              have := h3 0 _ (List.getElem?_eq_getElem (by omega))
              have := cells_lt this
              rwa [block_add, block_add] at this
            · obtain ⟨h1, _, _⟩ := hf i hi
              obtain ⟨h2, h3⟩ := cells_get h1
              have hlt : j < (f i).1.length := by omega
              have := h3 j _ (List.getElem?_eq_getElem hlt)
              rw [add_add'] at this
              rw [this, List.getElem?_eq_getElem hlt]
              rfl
            · obtain ⟨hi, rfl⟩ := hgetr i y hy
              obtain ⟨h1, _, h3⟩ := hf i hi
              have hlt : j < (f i).1.length := by rw [(hlens i hi).1, ← (hlens i hi).2]; exact (List.getElem?_eq_some_iff.1 hz).1
              rw [List.getElem?_eq_getElem hlt]
              exact h3.2 j _ z (List.getElem?_eq_getElem hlt) hz
      case struct fs =>
        simp only [Bool.and_eq_true, decide_eq_true_eq] at hp
        obtain ⟨xs, m, rfl, rfl, hl, hlen, hf⟩ := DataW.trod_struct hu hx
        obtain ⟨_, ps, h1, h2⟩ := read_fields d m cs (fun t cs x hp hx hw => read d m t cs x hp hx hw) fs.toList 0 _ hp.1 (by omega) hp.2 (fun f hfm => by
          obtain ⟨i, hi⟩ := List.getElem?_of_mem hfm
          have := hf i f (by simpa using hi)
          have hlt : i < xs.length := by
            have := (List.getElem?_eq_some_iff.1 hi).1
            simp at this; omega
          refine ⟨_, this.trans (List.getElem?_eq_getElem hlt), fun k hk => hwt k ?_⟩
          rw [weights_struct _ hu]
          exact DataW.weights_mem_each (j := i) (t := f.type) (d := xs[i].1) (by rw [List.getElem?_map, hi]; rfl) (by rw [List.getElem?_map, List.getElem?_eq_getElem hlt]; rfl) k hk)
        exact ⟨_, ⟨ps, rfl, h1⟩, by simpa [← hl] using h2⟩
      case array k e =>
        simp only [Bool.and_eq_true, decide_eq_true_eq] at hp
        obtain ⟨xs, m, rfl, rfl, hl, hlen, hf⟩ := DataW.trod_array hu hx
        obtain ⟨ps, h1, h2, h3⟩ := read_parts (w := w) d (P.cellsOf e) cs (fun _ => Fits P d e) k 0 (fun i hi => by
          have := hf i hi
          obtain ⟨ys, g1, g2⟩ := read d m e _ _ hp.2 (this.trans (List.getElem?_eq_getElem (show i < xs.length by omega))) (fun k' hk' => hwt k' (by rw [weights_array _ hu]; exact weightsAll_mem (List.mem_map_of_mem (List.getElem_mem _)) k' hk'))
          exact ⟨ys, g1, by rw [Nat.zero_add]; exact g2⟩) (by rw [Nat.zero_add]; omega)
        refine ⟨_, ⟨ps, rfl, h1, fun p hp => ?_⟩, ?_⟩
        · obtain ⟨i, hi⟩ := List.getElem?_of_mem hp
          exact h2 i p hi
        · have : k * P.cellsOf e = cs.length := by omega
          rw [Nat.zero_mul, List.drop_zero, this, List.take_length] at h3
          exact h3
def ArgFits (P : Program) (d : Nat) (t : TypeId) (x : T) : Prop :=
  match P.underlying t with
  | some (.struct _) | some (.array _ _) => ∃ xs, x = .agg xs ∧ Fits P d t xs
  | _ => Fits P d t [x]
theorem fits_one {d : Nat} {t : TypeId} {xs : List T} (h : Fits P d t xs) (hn : match P.underlying t with | some (.struct _) | some (.array _ _) => False | _ => True) : ∃ x, xs = [x] := by
  cases d with
  | zero => cases h
  | succ d =>
    unfold Fits at h
    cases hu : P.underlying t with
    | none => rw [hu] at h; exact h.elim
    | some td =>
      rw [hu] at h hn
      cases td <;> simp only at h hn <;> first | exact h.elim | exact hn.elim | (obtain ⟨b, rfl⟩ := h; exact ⟨_, rfl⟩) | (obtain ⟨b, rfl, _⟩ := h; exact ⟨_, rfl⟩)
theorem read_arg {r : Reach} {b0 d : Nat} {t : TypeId} {v : Value} {x : DataW H} {ps : List MemPlace} (hp : plainTy P d t = true) (hval : Value.okWide P w r b0 t v) (h : DataW.Trod enc P w 0 sp hd t v x ps) (hwt : ∀ k ∈ x.weights P t, k ≤ reachBytes) :
    ∃ y, ArgFits P d t y ∧ Rep w (fun b => b < w.heap.size) v y := by
  obtain ⟨n, hn⟩ := h
  obtain ⟨xs, h1, h2⟩ := read d n t _ _ hp hn hwt
  have agg : ∀ cs : Array Value, v = .agg cs → ∃ xs', Fits P d t xs' ∧ Rep w (fun b => b < w.heap.size) v (.agg xs') := fun cs e => by
    subst e
    refine ⟨xs, h1, .agg cs xs (by simpa [Value.cells] using h2.1.symm) fun j u y hu hy => h2.2 j u y (by simpa [Value.cells] using hu) hy⟩
  have one : (match P.underlying t with | some (.struct _) | some (.array _ _) => False | _ => True) → (∀ cs, v ≠ .agg cs) → ∃ y, Fits P d t [y] ∧ Rep w (fun b => b < w.heap.size) v y := fun hu hv => by
    obtain ⟨y, rfl⟩ := fits_one h1 hu
    refine ⟨y, h1, h2.2 0 v y ?_ rfl⟩
    cases v <;> first | rfl | exact (hv _ rfl).elim
  unfold ArgFits
  cases hu : P.underlying t with
  | none =>
    cases d with
    | zero => simp [plainTy] at hp
    | succ d => simp [plainTy, hu] at hp
  | some td =>
    have key : ∀ cs, v = .agg cs → Value.okWide P w r b0 t (.agg cs) := fun cs e => e ▸ hval
    cases td
    case struct fs =>
      have := hval
      simp only [Value.okWide, hu] at this
      obtain ⟨cs, hcs, _⟩ := this
      obtain ⟨xs', g1, g2⟩ := agg cs hcs
      exact ⟨_, ⟨xs', rfl, g1⟩, g2⟩
    case array k e =>
      have := hval
      simp only [Value.okWide, hu] at this
      obtain ⟨cs, hcs, _⟩ := this
      obtain ⟨xs', g1, g2⟩ := agg cs hcs
      exact ⟨_, ⟨xs', rfl, g1⟩, g2⟩
    all_goals first
      | (exfalso; cases d with
          | zero => simp [plainTy] at hp
          | succ d => simp [plainTy, hu] at hp; done)
      | exact one (by rw [hu]; trivial) (fun cs e => by have := key cs e; simp [Value.okWide, hu, Cell.okWide, Cell.ok] at this)
theorem read_args {r : Reach} {b0 d : Nat} : ∀ {ts : List TypeId} {vs : List Value} {ds : List (DataW H)} {ps : List MemPlace}, DataW.TrodAll enc P w 0 sp hd ts vs ds ps → (∀ (j : Nat) t v, ts[j]? = some t → vs[j]? = some v → Value.okWide P w r b0 t v) →
    (ts.all (plainTy P d)) = true → (∀ k ∈ DataW.weightsEach P ts ds, k ≤ reachBytes) → ∃ xs : List T, All2 (ArgFits P d) ts xs ∧ xs.length = vs.length ∧ ∀ (j : Nat) (v : Value) (x : T), vs[j]? = some v → xs[j]? = some x → Rep w (fun b => b < w.heap.size) v x
  | [], vs, ds, ps, h, _, _, _ => by
    obtain ⟨rfl, rfl, rfl⟩ := trodAll_nil h
    exact ⟨[], trivial, rfl, by simp⟩
  | t :: ts, vs, ds, ps, h, hval, hp, hwt => by
    obtain ⟨v, vs, x, ds, p, q, rfl, rfl, rfl, h1, h2⟩ := trodAll_cons h
    simp only [List.all_cons, Bool.and_eq_true] at hp
    obtain ⟨y, g1, g2⟩ := read_arg hp.1 (hval 0 t v rfl rfl) h1 (fun k hk => hwt k (by simp [DataW.weightsEach, hk]))
    obtain ⟨xs, e1, e2, e3⟩ := read_args h2 (fun j t' v' ht hv => hval (j + 1) t' v' (by simpa using ht) (by simpa using hv)) hp.2 (fun k hk => hwt k (by simp [DataW.weightsEach, hk]))
    refine ⟨y :: xs, ⟨g1, e1⟩, by simp [e2], fun j u z hu hz => ?_⟩
    cases j with
    | zero => simp at hu hz; subst hu; subst hz; exact g2
    | succ j => exact e3 j u z (by simpa using hu) (by simpa using hz)
theorem args_stay {W W' : World} (hl : laidOutB P = true) (hb : RowKit.Below W.heap.size W W') : ∀ {ts : List TypeId} {vs : List Value} {ds : List (DataW H)} {ps : List MemPlace}, DataW.TrodAll enc P W 0 (fun _ => true) true ts vs ds ps → (ts.all fun t => P.readableRec t && decide (t < P.types.size)) = true →
    (∀ x ∈ ps, x.block < W.heap.size) → DataW.TrodAll enc P W' 0 (fun b => decide (b < W.heap.size)) true ts vs ds ps
  | [], vs, ds, ps, h, _, _ => by
    obtain ⟨rfl, rfl, rfl⟩ := trodAll_nil h
    exact trodAll_mk0
  | t :: ts, vs, ds, ps, h, hr, hlt => by
    obtain ⟨v, vs, x, ds, p, q, rfl, rfl, rfl, h1, h2⟩ := trodAll_cons h
    simp only [List.all_cons, Bool.and_eq_true, decide_eq_true_eq] at hr
    exact trodAll_cons_mk (RowKit.Below.trod hl hr.1.1 hr.1.2 h1 hb (fun x hx => hlt x (by simp [hx]))) (args_stay hl hb h2 hr.2 (fun x hx => hlt x (by simp [hx])))
end
end Go.Proofs.YtgkmhmhbepfiaaaDoor.Pm
set_option linter.all false
set_option maxRecDepth 100000
namespace Go.Proofs.YtgkmhmhbepfiaaaDoor.Pm
open Go Go.RowKit Go.ChangeShapes Go.WideShapes Go.ChangeAt
theorem trod_u32s {H : Type} {P : Program} {enc : TypeId × Value → H} {W : World} {base : Nat} {sp : Nat → Bool} {hd : Bool} {fuel t e n : Nat} {cs : List Value} {p : List MemPlace} {ks : List Int} (ht : P.underlying t = some (.array n e)) (he : P.underlying e = some (.int .u32)) (hc : P.cellsOf e = 1) (hct : P.cellsOf t = n)
    (h : DataW.trod enc P W base sp hd fuel t cs = some (.agg (ks.map fun k => .lit (.int .u32 k)), p)) : cs = ks.map (Value.int .u32) := by
  obtain ⟨xs, m, _, hx, hl, hn, hel⟩ := DataW.trod_array ht h
  simp only [Prod.mk.injEq, DataW.agg.injEq] at hx
  have hkn : ks.length = n := by have := congrArg List.length hx.1; simp at this; omega
  rw [hct] at hl
  apply List.ext_getElem?
  intro i
  rcases Nat.lt_or_ge i n with hi | hi
  · have h1 := hel i hi
    rw [hc, Nat.mul_one] at h1
    have hi' : i < xs.length := by omega
    rw [List.getElem?_eq_getElem hi'] at h1
    obtain ⟨k, e1, e2, _⟩ := DataW.trod_int he h1
    have h2 : (ks.map fun k => (DataW.lit (.int .u32 k) : DataW H))[i]? = some (.lit (.int .u32 k)) := by
      rw [hx.1, List.getElem?_map, List.getElem?_eq_getElem hi', e2]; rfl
    have hik : i < ks.length := by omega
    rw [List.getElem?_map, List.getElem?_eq_getElem hik] at h2
    simp only [Option.map_some, Option.some.injEq, DataW.lit.injEq, Lit.int.injEq, true_and] at h2
    have h3 : (List.drop i cs)[0]? = some (.int .u32 k) := by
      have : (List.take 1 (List.drop i cs))[0]? = some (.int .u32 k) := by rw [e1]; rfl
      simpa using this
    rw [List.getElem?_drop, Nat.add_zero] at h3
    rw [h3, List.getElem?_map, List.getElem?_eq_getElem hik, h2]
    rfl
  · rw [List.getElem?_eq_none (by omega), List.getElem?_eq_none (by simp; omega)]
theorem table_rep {W : World} {g : Nat} {ks : List Int} (h : ∀ i (hi : i < ks.length), W.cell? ⟨g, i, none⟩ = some (.int .u32 ks[i])) (hlt : g < W.heap.size) : Rep W (fun b => b < W.heap.size) (.pointer (some ⟨g, 0, none⟩)) (.pt (u32T ks)) := by
  refine .pt ⟨g, 0, none⟩ (u32T ks) (fun j => .int .u32 ((ks[j]?).getD 0)) hlt (fun j hj => ?_) (fun j x hx => ?_)
  · have hj' : j < ks.length := by simpa [u32T] using hj
    have := h j hj'
    rw [show (⟨g, 0, none⟩ : Addr).add j = ⟨g, j, none⟩ by unfold Addr.add; by_cases e : j = 0 <;> simp [e], this, List.getElem?_eq_getElem hj']
    rfl
  · simp only [u32T, List.getElem?_map, Option.map_eq_some_iff] at hx
    obtain ⟨k, hk, rfl⟩ := hx
    rw [hk]
    exact .i _ _
theorem law_ofC {C : Checked} {os : Os} {f : FuncId} {fn : Func} {s : ChangeSpec} {d : Nat} (lay : List (String × DataW Unit)) (H : Type) (enc : TypeId × Value → H) (own : ownKnob C.prog.godebug = none) (started : os.Started) (noInit : C.prog.inits.idxOf? f = none) (hfn : C.prog.funcs[f]? = some fn)
    (witness : ∃ (w : World) (tape : Tape) (i : Input), w.os = os ∧ (w.forCall tape i).Shaped C.prog ∧ i.vars = [] ∧ Input.okWide C.prog (w.forCall tape i) .any w.heap.size f i ∧
      ((s.pre enc C.prog fn [] false (w.forCall tape i).memory i.args ∧ laidMetH C.prog lay (w.forCall tape i).memory) ∧ sizedMet enc C.prog fn (OpenSpec.ofChange s) false (w.forCall tape i).memory i.args) ∧ ({} : Assume).holds C.prog (lone (Frame.enter C.prog f i.args .normal) [] (w.forCall tape i)))
    (hvars : s.vars = []) {tb : TypeId} (hrt : fn.resultTypes = #[tb]) (htb : C.prog.underlying tb = some .bool) (hp : (fn.params.toList.all (plainTy C.prog d)) = true)
    (hl : laidOutB C.prog = true) (hr : (fn.params.toList.all fun t => C.prog.readableRec t && decide (t < C.prog.types.size)) = true)
    (hs : ∀ ds : List (DataW H), ds.length = fn.params.size → s.fn H ds = { results := [.lit (.bool true)], args := ds })
    (hX : ∀ w w' : World, w.heap = w'.heap → laidMetH C.prog lay w → laidMetH C.prog lay w')
    (hglob : ∀ W : World, laidMetH C.prog lay W → GlobOK W (fun b => b < W.heap.size))
    (spec : ∀ xs, All2 (ArgFits C.prog d) fn.params.toList xs → Spec C.prog f xs [] (.t (.b true) true)) :
    ReturnsInHanded {} C os f .any (fun w args => (s.pre enc C.prog fn [] false w args ∧ laidMetH C.prog lay w) ∧ sizedMet enc C.prog fn (OpenSpec.ofChange s) false w args) (s.post enc C.prog fn false true false false) := by
  refine returnsInHanded_of_change_and (X := fun w _ => laidMetH C.prog lay w) (fun w w' _ hh h => hX w w' hh h) own started noInit hfn witness fun W base args ds gs before hval hW _ hsz hL _ => ?_
  have hW' := hW
  obtain ⟨p, q, hA, hV, rfl, hfz, hnd⟩ := hW
  rw [hvars] at hV
  obtain ⟨rfl, rfl⟩ := trodVars_none hV
  have hpl : s.plain.varTypes C.prog = [] := by
    simp [DataSpec.varTypes, ChangeSpec.plain, hvars]
  rw [hpl, List.append_nil, List.append_nil, List.all_eq_true] at hsz
  obtain ⟨hvl, hdl⟩ := trodAll_length hA
  obtain ⟨xs, h1, h2, h3⟩ := read_args (d := d) hA (fun j t v ht hv => hval j t v (by simpa using ht) (by simpa using hv)) hp (fun k hk => by simpa using hsz k hk)
  refine ((spec xs h1).run W (fun b => b < W.heap.size) args (fun _ h => h) (hglob W hL) (by simp at h2; omega) (fun j v x hv hx => h3 j v x (by simpa using hv) hx)).mono fun e W' he => ?_
  cases e with
  | panicked _ => exact he.elim
  | outgrown => exact he.elim
  | returned v =>
    obtain ⟨m, hM, hv⟩ := he
    refine ⟨v, rfl, ?_⟩
    obtain rfl : v = .bool true := by
      cases hv with
      | t _ _ _ hr => cases hr; rfl
    have hB := hM.below
    simp only at hB
    have hlt : ∀ x ∈ p, x.block < W.heap.size := fun x hx => hW'.lt x (by simp [hx])
    refine ⟨ds, [], p ++ [], [], p, [], hW', ?_, ?_, ?_, ?_, fun h => by cases h⟩
    · rw [List.append_nil, hs ds (by simpa using hdl), hrt]
      exact trodAll_mk1 (shut_bool htb true)
    · rw [List.append_nil, hs ds (by simpa using hdl)]
      exact args_stay hl hB hA hr hlt
    · rw [List.append_nil, hs ds (by simpa using hdl), hvars]
      exact rfl
    · exact RowKit.Below.frame hB _
end Go.Proofs.YtgkmhmhbepfiaaaDoor.Pm
