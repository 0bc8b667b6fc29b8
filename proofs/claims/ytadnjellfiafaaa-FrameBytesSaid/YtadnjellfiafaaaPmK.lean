/- The abstract machine, eleventh part: operations that make blocks. No law of Go's is stated here. -/
import Derived.Test.YtadnjellfiafaaaPmJ
set_option linter.all false
namespace Go.Proofs.Ytadnjellfiafaaa.Pm
open Go Go.RowKit

section
variable {P : Program} {w w' : World} {c : Ct} {m m' : Mp} {h h' h1 : H} {ti : Nat → Option TI} {tm : Tm} {a : Act}

theorem uH_cons (h : H) (u : Nat × Blk) (us : List (Nat × Blk)) : uH h (u :: us) = uH (setH h u.1 u.2) us := rfl
theorem uH_append (h : H) (us vs : List (Nat × Blk)) : uH h (us ++ vs) = uH (uH h us) vs := by
  induction us generalizing h with
  | nil => rfl
  | cons u us ih => simp only [List.cons_append, uH_cons, ih]

theorem goesAll {w : World} {c : Ct} : ∀ (ids : List Nat) {m : Mp} {h : H}, Mem c m h w → (∀ id ∈ ids, (∃ ver z es l, h id = some (.row ver z es l)) ∨ h id = some .gone) →
    ∃ st', Ext m h w { m with st := st' } (uH h (ids.map fun i => (i, .gone))) w ∧ Mem c { m with st := st' } (uH h (ids.map fun i => (i, .gone))) w ∧
      (∀ b, m.st b → st' b) ∧ (∀ id ∈ ids, ∀ ver z es l, h id = some (.row ver z es l) → 0 < (m.ψ id).2 → st' (m.ψ id).1)
  | [], m, h, hM, _ => ⟨m.st, Ext.refl _ _ _, hM, fun _ h => h, by simp⟩
  | id :: ids, m, h, hM, hall => by
    simp only [List.map_cons, uH_cons]
    rcases hall id (by simp) with ⟨ver, z, es, l, hid⟩ | hid
    · obtain ⟨e1, M1⟩ := hM.goes hid
      have hall' : ∀ i ∈ ids, (∃ ver z es l, setH h id .gone i = some (.row ver z es l)) ∨ setH h id .gone i = some .gone := fun i hi => by
        by_cases e : i = id
        · subst e; exact .inr (by simp [setH])
        · rw [show setH h id .gone i = h i by simp [setH, e]]; exact hall i (List.mem_cons_of_mem _ hi)
      obtain ⟨st', e2, M2, h2, h3⟩ := goesAll ids M1 hall'
      refine ⟨st', e1.trans e2, M2, fun b hb => h2 b (.inl hb), fun i hi ver' z' es' l' hir h0 => ?_⟩
      by_cases e : i = id
      · subst e; exact h2 _ (.inr ⟨h0, rfl⟩)
      · have hi' : i ∈ ids := by simpa [e] using hi
        exact h3 i hi' ver' z' es' l' (by simp only [setH, if_neg e]; exact hir) h0
    · have hself : setH h id .gone = h := by
        funext i
        by_cases e : i = id
        · subst e; simp [setH, hid]
        · simp [setH, e]
      rw [hself]
      obtain ⟨st', e2, M2, h2, h3⟩ := goesAll ids hM fun i hi => hall i (by simp [hi])
      refine ⟨st', e2, M2, h2, fun i hi ver' z' es' l' hir h0 => ?_⟩
      by_cases e : i = id
      · subst e; rw [hid] at hir; cases hir
      · exact h3 i (by simpa [e] using hi) ver' z' es' l' hir h0

/-- Blocks that may be read once the rows of 'ids' have been handed on. -/
def gok (m : Mp) (B : Nat) (ids : List Nat) (l : Bool) : Nat → Prop := fun b => (m.st b ∨ ∃ id ∈ ids, 0 < (m.ψ id).2 ∧ b = (m.ψ id).1) ∧ (l = true → B ≤ b)

theorem emb_rep (hM : Mem c m h w) {v : AV} {r : T × Bool × List (Nat × Blk)} (he : emb h v = some r) {rv : Value} (hv : VR m c.B h w rv v) :
    ∃ ids, r.2.2 = ids.map (fun i => (i, .gone)) ∧ (∀ id ∈ ids, ∃ ver z es l, h id = some (.row ver z es l)) ∧ Rep w (gok m c.B ids r.2.1) rv r.1 := by
  cases v <;> simp only [emb, Option.some.injEq, reduceCtorEq] at he
  case t x l => subst he; cases hv with | t _ _ _ hr => exact ⟨[], rfl, by simp, hr.mono (fun b hb => ⟨.inl hb.1, hb.2⟩) (fun _ _ => rfl)⟩
  case nl => subst he; cases hv; exact ⟨[], rfl, by simp, Rep.nilslice _⟩
  case e0 => subst he; cases hv; exact ⟨[], rfl, by simp, Rep.nilslice _⟩
  case row id ver off len =>
    split at he <;> try cases he
    rename_i z es l hr
    split at he <;> simp only [Option.some.injEq, reduceCtorEq] at he
    rename_i hl
    subst he
    refine ⟨[id], rfl, fun i hi => by rw [List.mem_singleton] at hi; subst hi; exact ⟨_, _, _, _, rowOf_some hr⟩, (row_rep hM hv hr hl).mono (fun b hb => ⟨?_, hb.2⟩) (fun _ _ => rfl)⟩
    rcases hb.1 with h1 | h1
    · exact .inl h1
    · exact .inr ⟨id, by simp, h1⟩

theorem gok_mono {B : Nat} {ids ids' : List Nat} (hi : ∀ i ∈ ids, i ∈ ids') {l l' : Bool} (hl : l' = true → l = true) {v : Value} {x : T} (hr : Rep w (gok m B ids l) v x) : Rep w (gok m B ids' l') v x := by
  refine hr.mono (fun b hb => ⟨?_, fun e => hb.2 (hl e)⟩) (fun _ _ => rfl)
  rcases hb.1 with h1 | ⟨i, h1, h2⟩
  · exact .inl h1
  · exact .inr ⟨i, hi i h1, h2⟩

theorem embs_rep (hM : Mem c m h w) : ∀ {vs : List AV} {r : List T × Bool × List (Nat × Blk)}, embs h vs = some r → ∀ {rvs : List Value}, rvs.length = vs.length →
    (∀ (j : Nat) (v : Value) (x : AV), rvs[j]? = some v → vs[j]? = some x → VR m c.B h w v x) →
    ∃ ids, r.2.2 = ids.map (fun i => (i, .gone)) ∧ (∀ id ∈ ids, ∃ ver z es l, h id = some (.row ver z es l)) ∧ r.1.length = vs.length ∧
      ∀ (j : Nat) (v : Value) (x : T), rvs[j]? = some v → r.1[j]? = some x → Rep w (gok m c.B ids r.2.1) v x
  | [], r, he, rvs, hl, hv => by simp [embs] at he; subst he; exact ⟨[], rfl, by simp, rfl, by simp⟩
  | v :: vs, r, he, rvs, hl, hv => by
    simp only [embs] at he
    split at he <;> simp only [Option.some.injEq, reduceCtorEq] at he
    rename_i x l u xs k us h1 h2
    subst he
    match rvs, hl with
    | rv :: rvs, hl =>
      obtain ⟨i1, e1, r1, p1⟩ := emb_rep hM h1 (hv 0 rv v rfl rfl)
      obtain ⟨i2, e2, r2, l2, p2⟩ := embs_rep hM h2 (rvs := rvs) (by simpa using hl) fun j v' x' a b => hv (j + 1) v' x' (by simpa using a) (by simpa using b)
      simp only at e1 e2
      refine ⟨i1 ++ i2, by simp [e1, e2], fun id hid => ?_, by simp [l2], fun j v' x' a b => ?_⟩
      · rcases List.mem_append.1 hid with h | h
        · exact r1 id h
        · exact r2 id h
      · cases j with
        | zero => simp at a b; subst a; subst b; exact gok_mono (fun i hi => List.mem_append_left _ hi) (by simp; intro a _; exact a) p1
        | succ j => simp at a b; exact gok_mono (fun i hi => List.mem_append_right _ hi) (by simp) (p2 j v' x' a b)

/-- A value's cells. -/
theorem cells_vr {v : AV} {cs : List AV} (hc : v.cells = some cs) {rv : Value} (hv : VR m c.B h w rv v) :
    rv.cells.size = cs.length ∧ ∀ (j : Nat) (u : Value) (x : AV), rv.cells[j]? = some u → cs[j]? = some x → VR m c.B h w u x := by
  have one : ∀ (rv : Value) (v : AV), rv.cells = #[rv] → VR m c.B h w rv v → cs = [v] →
      rv.cells.size = cs.length ∧ ∀ (j : Nat) (u : Value) (x : AV), rv.cells[j]? = some u → cs[j]? = some x → VR m c.B h w u x := by
    intro rv v e hv e2
    subst e2
    rw [e]
    refine ⟨rfl, fun j u x hu hx => ?_⟩
    cases j with
    | zero => simp at hu hx; subst hu; subst hx; exact hv
    | succ j => simp at hx
  cases hv' : v <;> subst hv' <;> simp only [AV.cells, Option.some.injEq, reduceCtorEq] at hc
  case agg cs' => subst hc; cases hv with | agg vs _ hs hvv => exact ⟨hs, hvv⟩
  case t x l =>
    cases hv with
    | t _ _ _ hr =>
      cases hr <;> simp only [Option.some.injEq, reduceCtorEq] at hc
      case agg vs cs' hs hvv =>
        subst hc
        refine ⟨by simpa [Value.cells] using hs, fun j u x hu hx => ?_⟩
        rw [List.getElem?_map] at hx
        simp only [Option.map_eq_some_iff] at hx
        obtain ⟨y, hy, rfl⟩ := hx
        exact .t _ _ _ (hvv j u y hu hy)
      case i => exact one _ _ rfl (.t _ _ _ (.i _ _)) hc.symm
      case b => exact one _ _ rfl (.t _ _ _ (.b _)) hc.symm
      case s => exact one _ _ rfl (.t _ _ _ (.s _)) hc.symm
      case nl => exact one _ _ rfl (.t _ _ _ .nl) hc.symm
      case sl A n k es z vals hn hc' hm hz0 hz hA hv => exact one _ _ rfl (.t _ _ _ (.sl A n k es z vals hn hc' hm hz0 hz hA hv)) hc.symm
      case ne a k => exact one _ _ rfl (.t _ _ _ (.ne a k)) hc.symm
      case pt x cs' vals hB hc' hv => exact one _ _ rfl (.t _ _ _ (.pt x cs' vals hB hc' hv)) hc.symm
      case fn vs cs' f hs h' => exact one _ _ rfl (.t _ _ _ (.fn _ _ _ hs h')) hc.symm
  case nl => cases hv; exact one _ _ rfl .nl hc.symm
  case e0 => cases hv; exact one _ _ rfl (.e0 _) hc.symm
  case row => cases hv with | row _ _ _ _ k A hid hver hc' hr => exact one _ _ rfl (.row _ _ _ _ k A hid hver hc' hr) hc.symm
  case vs => cases hv with | vs _ _ _ _ k A hid hc' hA => exact one _ _ rfl (.vs _ _ _ _ k A hid hc' hA) hc.symm
  case ptr => cases hv with | ptr _ _ hid => exact one _ _ rfl (.ptr _ _ hid) hc.symm
  case eptr => cases hv with | eptr _ _ _ _ x hid hver hr => exact one _ _ rfl (.eptr _ _ _ _ x hid hver hr) hc.symm
  case fn => cases hv with | fn _ vs _ hs hv => exact one _ _ rfl (.fn _ vs _ hs hv) hc.symm

theorem below_alloc' (w : World) (o : Obj) : Below w.heap.size w (w.alloc o) := (Below.refl _ w).alloc (Nat.le_refl _) o

/-- A new variable. -/
theorem Mem.newVar (hM : Mem c m h w) {n : Nat} (hn : h n = none) (rcs : Array Value) (ty : TypeId) (cs : List AV) (hsz : rcs.size = cs.length)
    (hv : ∀ (j : Nat) (v : Value) (x : AV), rcs[j]? = some v → cs[j]? = some x → VR m c.B h w v x) :
    ∃ m', Ext m h w m' (setH h n (.var cs)) (w.alloc (.cells rcs ty)) ∧ Mem c m' (setH h n (.var cs)) (w.alloc (.cells rcs ty)) ∧ m'.φ n = w.heap.size := by
  obtain ⟨e1, M1⟩ := hM.grow (below_alloc' w (.cells rcs ty))
  obtain ⟨e2, M2⟩ := M1.add (n := n) hn (.var cs) w.heap.size (m.ψ n) (fun g hg => by
    simp [placeB, setF] at hg
    subst hg
    refine ⟨hM.bsize, fun hs => Nat.lt_irrefl _ (hM.stlt _ hs), fun i hi => Nat.lt_irrefl _ (hM.place_lt hi).1⟩) (fun he => by
    refine ⟨by simpa [setF] using hM.bsize, fun hs => Nat.lt_irrefl w.heap.size (by simpa [setF] using hM.stlt _ hs), rcs, ty, by simp only [setF, if_true]; exact heap_alloc_new w _, hsz, fun j v x h1 h2 => ?_⟩
    exact ((hv j v x h1 h2).mono e1).mono he)
  exact ⟨_, e1.trans e2, M2, by simp [setF]⟩

/-- A new row. -/
theorem Mem.newRow (hM : Mem c m h w) {n : Nat} (hn : h n = none) (rcs : Array Value) (ty : TypeId) (z cap : Nat) (es : List (List T)) (l : Bool) (h1 : es.length ≤ cap) (h2 : es.length ≤ room)
    (h3 : ∀ (i : Nat) (e : List T), es[i]? = some e → e.length = z) (h4 : cap * z ≤ rcs.size)
    (hv : ∀ (i j : Nat) (e : List T) (x : T), es[i]? = some e → e[j]? = some x → ∃ v, rcs[i * z + j]? = some v ∧ Rep w (m.ok c.B l) v x) :
    ∃ m', Ext m h w m' (setH h n (.row 0 z es l)) (w.alloc (.cells rcs ty)) ∧ Mem c m' (setH h n (.row 0 z es l)) (w.alloc (.cells rcs ty)) ∧ m'.ψ n = (w.heap.size, cap) := by
  obtain ⟨e1, M1⟩ := hM.grow (below_alloc' w (.cells rcs ty))
  obtain ⟨e2, M2⟩ := M1.add (n := n) hn (.row 0 z es l) (m.φ n) (w.heap.size, cap) (fun g hg => by
    simp [placeB, setF] at hg
    obtain ⟨_, rfl⟩ := hg
    refine ⟨hM.bsize, fun hs => Nat.lt_irrefl _ (hM.stlt _ hs), fun i hi => Nat.lt_irrefl _ (hM.place_lt hi).1⟩) (fun he => by
    refine ⟨by simpa [setF] using h1, h2, h3, fun h0 => ⟨by simpa [setF] using hM.bsize, fun hs => Nat.lt_irrefl w.heap.size (by simpa [setF] using hM.stlt _ hs), rcs, ty, by simp only [setF, if_true]; exact heap_alloc_new w _, by simpa [setF] using h4, fun i j e x a b => ?_⟩⟩
    obtain ⟨v, hv1, hv2⟩ := hv i j e x a b
    exact ⟨v, hv1, hv2.mono (fun _ hb => hb) (fun b hb => e1.heap b hb.1)⟩)
  exact ⟨_, e1.trans e2, M2, by simp [setF]⟩

theorem row_new {n : Nat} {z cap len : Nat} {es : List (List T)} {l : Bool} {m : Mp} (hψ : m.ψ n = (w.heap.size, cap)) (hl : len ≤ cap) {W : World} {B : Nat} (hh : h n = some (.row 0 z es l)) :
    VR m B h W (.slice (some ⟨w.heap.size, 0, none⟩) len cap) (.row n 0 0 len) := by
  refine .row n 0 0 len cap _ (by rw [hh]; rfl) (fun _ _ _ _ _ => Nat.zero_le _) hl fun z' es' l' hr => ⟨by rw [hψ]; simp, fun _ => ?_⟩
  rw [hψ, add_lit]
  simp
end
end Go.Proofs.Ytadnjellfiafaaa.Pm
