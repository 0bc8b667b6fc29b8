/- The abstract machine, fifth part: operations that make and write nothing do what is said of them. No law of Go's is stated here. -/
import Derived.Test.YtadnjellfiafaaaPmD
set_option linter.all false
namespace Go.Proofs.Ytadnjellfiafaaa.Pm
open Go Go.RowKit

def dOK : TypeDesc → Ty → Bool
  | .bool, .bool => true
  | .int k, .int k' => k == k'
  | .string, .str => true
  | .pointer e, .ptr e' => e == e'
  | .slice e, .slice e' => e == e'
  | .array n e, .array n' e' => n == n' && e == e'
  | .struct fs, .struct l => fs.toList.map (fun f => (f.offset, f.type)) == l
  | _, _ => false

/-- What is said of a type is so. -/
structure TIr (P : Program) (t : Nat) (i : TI) : Prop where
  und : ∃ d, P.underlying t = some d ∧ dOK d i.d = true
  info : ∃ inf, P.info? t = some inf ∧ inf.size = i.sz ∧ inf.bytes = i.nb ∧ ∃ zv, inf.zero = some zv ∧ cTs zv.cells.toList = some i.z ∧ zv.cells.size = i.sz
  flds : ∀ fs, P.underlying t = some (.struct fs) → (fs.toList.mapM fun (f : Field) => (P.info? f.type).map fun j => (f.offset, j.size)).isSome = true

structure TIok (P : Program) (ti : Nat → Option TI) : Prop where
  ok : ∀ t i, ti t = some i → TIr P t i

section
variable {P : Program} {w : World}

theorem dOK_agg {d : TypeDesc} {y : Ty} (h : dOK d y = true) : (match d with | .struct _ | .array _ _ => true | _ => false) = isAgg y := by
  cases d <;> cases y <;> first | rfl | exact (Bool.false_ne_true h).elim

theorem TIr.run_und {t : Nat} {i : TI} (h : TIr P t i) : ∃ d, (underlying t).run P w = .ok d w ∧ P.underlying t = some d ∧ dOK d i.d = true := by
  obtain ⟨d, hd, ho⟩ := h.und
  exact ⟨d, run_underlying hd w, hd, ho⟩
theorem TIr.run_size {t : Nat} {i : TI} (h : TIr P t i) : (sizeOf t).run P w = .ok i.sz w := by
  obtain ⟨inf, hi, hs, _⟩ := h.info
  simp [sizeOf, typeInfo, hi, hs]
theorem TIr.run_isAgg {t : Nat} {i : TI} (h : TIr P t i) : (Go.isAgg t).run P w = .ok (Pm.isAgg i.d) w := by
  obtain ⟨d, hr, hd, ho⟩ := h.run_und (w := w)
  have ha := dOK_agg ho
  unfold Go.isAgg
  simp only [Sem.run_bind, hr, Result.andThen_ok]
  rw [← ha]
  cases d <;> rfl

theorem loadVar_cells {t : Nat} {i : TI} (h : TIr P t i) (ha : Pm.isAgg i.d = true) (a : Addr) (vals : List Value) (hl : vals.length = i.sz) (hc : ∀ (j : Nat) (v : Value), vals[j]? = some v → w.cell? (a.add j) = some v) :
    (loadVar t a).run P w = .ok (.agg vals.toArray) w := by
  have := run_loadCells_list (P := P) w a vals hc
  rw [hl] at this
  simp [loadVar, h.run_isAgg, ha, h.run_size, this]
theorem loadVar_one {t : Nat} {i : TI} (h : TIr P t i) (ha : Pm.isAgg i.d = false) (a : Addr) (v : Value) (hc : w.cell? a = some v) : (loadVar t a).run P w = .ok v w := by
  simp [loadVar, h.run_isAgg, ha, hc]

theorem add_lit (g o j : Nat) : (⟨g, o, none⟩ : Addr).add j = ⟨g, o + j, none⟩ := by
  unfold Addr.add
  split
  · subst_vars; rfl
  · rfl
theorem cell_lit {g : Nat} {rcs : Array Value} {t : TypeId} {fr : Nat × Nat} (hg : w.heap[g]? = some (.cells rcs t fr)) (j : Nat) : w.cell? ⟨g, j, none⟩ = rcs[j]? := cell_of_row w g j rcs t fr hg

theorem size_get {rcs : Array Value} {n : Nat} (h : rcs.size = n) {j : Nat} (hj : j < n) : ∃ v, rcs[j]? = some v := ⟨rcs[j], by simp [h, hj]⟩
theorem list_get {α : Type} {l : List α} {j : Nat} (hj : j < l.length) : ∃ v, l[j]? = some v := ⟨l[j], List.getElem?_eq_getElem hj⟩

theorem part_cells {t : Nat} {i : TI} (h : TIr P t i) (ha : Pm.isAgg i.d = true) (cs : Array Value) (o : Nat) : (part t cs o).run P w = .ok (.agg (cs.extract o (o + i.sz))) w := by
  simp [part, h.run_isAgg, ha, h.run_size]
theorem part_one {t : Nat} {i : TI} (h : TIr P t i) (ha : Pm.isAgg i.d = false) (cs : Array Value) (o : Nat) (v : Value) (hv : cs[o]? = some v) : (part t cs o).run P w = .ok v w := by
  simp [part, h.run_isAgg, ha, hv]
end

section
variable {c : Ct} {m : Mp} {h h1 : H} {w : World} {ti : Nat → Option TI}

def Sub (h1 h : H) : Prop := ∀ id b, h1 id = some b → h id = some b
theorem Sub.var (hs : Sub h1 h) {id : Nat} {cs : List AV} (hv : varOf h1 id = some cs) : h id = some (.var cs) := by
  unfold varOf at hv
  split at hv
  · rename_i x hx; simp at hv; subst hv; exact hs _ _ hx
  · cases hv
theorem rowOf_some {id ver z : Nat} {es : List (List T)} {l : Bool} (hv : rowOf h id ver = some (z, es, l)) : h id = some (.row ver z es l) := by
  unfold rowOf at hv
  split at hv
  · rename_i v z' es' l' hx
    split at hv
    · rename_i hver; simp at hv; obtain ⟨rfl, rfl, rfl⟩ := hv; subst hver; exact hx
    · cases hv
  · cases hv
theorem Sub.row (hs : Sub h1 h) {id ver z : Nat} {es : List (List T)} {l : Bool} (hv : rowOf h1 id ver = some (z, es, l)) : h id = some (.row ver z es l) ∧ rowOf h id ver = some (z, es, l) := by
  have := hs _ _ (rowOf_some hv)
  exact ⟨this, by simp [rowOf, this]⟩

/-- The cells of a variable, from a place on. -/
theorem Mem.var_cells (hM : Mem c m h w) {id : Nat} {cs : List AV} (hv : h id = some (.var cs)) : ∃ rcs t, w.heap[m.φ id]? = some (.cells rcs t (0, 0)) ∧ rcs.size = cs.length ∧
    (∀ (j : Nat) (v : Value) (x : AV), rcs[j]? = some v → cs[j]? = some x → VR m c.B h w v x) := by
  obtain ⟨_, _, rcs, t, hh, hz, hr⟩ := hM.blk _ _ hv
  exact ⟨rcs, t, hh, hz, hr⟩

theorem Rep.agg_part {B : Nat → Prop} {vs : Array Value} {cs : List T} (hs : vs.size = cs.length) (hv : ∀ (j : Nat) (v : Value) (x : T), vs[j]? = some v → cs[j]? = some x → Rep w B v x) (o n : Nat) (hl : o + n ≤ cs.length) :
    Rep w B (.agg (vs.extract o (o + n))) (.agg ((cs.drop o).take n)) := by
  refine .agg _ _ (by simp; omega) fun j v x h1 h2 => ?_
  have hj : j < n := by
    have := (List.getElem?_eq_some_iff.1 h2).1
    simp at this
    omega
  rw [Array.getElem?_extract] at h1
  rw [List.getElem?_take_of_lt hj, List.getElem?_drop] at h2
  split at h1
  · exact hv (o + j) v x h1 h2
  · cases h1
theorem VR.agg_part {vs : Array Value} {cs : List AV} (hs : vs.size = cs.length) (hv : ∀ (j : Nat) (v : Value) (x : AV), vs[j]? = some v → cs[j]? = some x → VR m c.B h w v x) (o n : Nat) (hl : o + n ≤ cs.length) :
    VR m c.B h w (.agg (vs.extract o (o + n))) (.agg ((cs.drop o).take n)) := by
  refine .agg _ _ (by simp; omega) fun j v x h1 h2 => ?_
  have hj : j < n := by
    have := (List.getElem?_eq_some_iff.1 h2).1
    simp at this
    omega
  rw [Array.getElem?_extract] at h1
  rw [List.getElem?_take_of_lt hj, List.getElem?_drop] at h2
  split at h1
  · exact hv (o + j) v x h1 h2
  · cases h1

theorem partT_sound {P : Program} {t : Nat} {i : TI} (hT : TIr P t i) {l : Bool} {vs : Array Value} {cs : List T} (hs : vs.size = cs.length) (hv : ∀ (j : Nat) (v : Value) (x : T), vs[j]? = some v → cs[j]? = some x → Rep w (m.ok c.B l) v x)
    {o : Nat} {p : Prop} {x : AV} {us : List (Nat × Blk)} (hq : partT i cs o l = some (p, x, us)) (hp : p) : us = [] ∧ ∃ r, (part t vs o).run P w = .ok r w ∧ VR m c.B h w r x := by
  unfold partT at hq
  split at hq
  · rename_i ha
    simp only [Option.some.injEq, Prod.mk.injEq] at hq
    obtain ⟨rfl, rfl, rfl⟩ := hq
    exact ⟨rfl, _, part_cells hT ha _ _, .t _ _ _ (Rep.agg_part hs hv _ _ hp)⟩
  · rename_i ha
    simp only [atT, Option.some.injEq, Prod.mk.injEq] at hq
    obtain ⟨rfl, rfl, rfl⟩ := hq
    obtain ⟨y, hy⟩ := Option.isSome_iff_exists.1 hp
    have hlt : o < vs.size := by rw [hs]; exact (List.getElem?_eq_some_iff.1 hy).1
    have hvo : vs[o]? = some vs[o] := by simp [hlt]
    refine ⟨rfl, _, part_one hT ha _ _ _ hvo, ?_⟩
    rw [hy]
    exact .t _ _ _ (hv _ _ _ hvo hy)
theorem partA_sound {P : Program} {t : Nat} {i : TI} (hT : TIr P t i) {vs : Array Value} {cs : List AV} (hs : vs.size = cs.length) (hv : ∀ (j : Nat) (v : Value) (x : AV), vs[j]? = some v → cs[j]? = some x → VR m c.B h w v x)
    {o : Nat} {p : Prop} {x : AV} {us : List (Nat × Blk)} (hq : partA i cs o = some (p, x, us)) (hp : p) : us = [] ∧ ∃ r, (part t vs o).run P w = .ok r w ∧ VR m c.B h w r x := by
  unfold partA at hq
  split at hq
  · rename_i ha
    simp only [Option.some.injEq, Prod.mk.injEq] at hq
    obtain ⟨rfl, rfl, rfl⟩ := hq
    exact ⟨rfl, _, part_cells hT ha _ _, VR.agg_part hs hv _ _ hp⟩
  · rename_i ha
    simp only [atA, Option.some.injEq, Prod.mk.injEq] at hq
    obtain ⟨rfl, rfl, rfl⟩ := hq
    obtain ⟨y, hy⟩ := Option.isSome_iff_exists.1 hp
    have hlt : o < vs.size := by rw [hs]; exact (List.getElem?_eq_some_iff.1 hy).1
    have hvo : vs[o]? = some vs[o] := by simp [hlt]
    refine ⟨rfl, _, part_one hT ha _ _ _ hvo, ?_⟩
    rw [hy]
    exact hv _ _ _ hvo hy

/-- Cells in a row in memory are an aggregate's cells, laid there. -/
theorem loadVar_part {P : Program} {t : Nat} {i : TI} (hT : TIr P t i) (a : Addr) (vs : Array Value) (o : Nat) (hc : ∀ (j : Nat) (v : Value), vs[o + j]? = some v → w.cell? (a.add j) = some v) (hl : Pm.isAgg i.d = true → o + i.sz ≤ vs.size)
    {r : Value} (hr : (part t vs o).run P w = .ok r w) : (loadVar t a).run P w = .ok r w := by
  cases ha : Pm.isAgg i.d with
  | true =>
    rw [part_cells hT ha] at hr
    simp only [Result.ok.injEq, and_true] at hr
    subst hr
    have := loadVar_cells (w := w) hT ha a (vs.extract o (o + i.sz)).toList (by simp; have := hl ha; omega) (fun j v hj => by
      rw [Array.getElem?_toList, Array.getElem?_extract] at hj
      split at hj
      · exact hc j v hj
      · cases hj)
    rwa [Array.toArray_toList] at this
  | false =>
    have h2 : (part t vs o).run P w = (match vs[o]? with | some v => Result.ok v w | none => .halt (.stuck "part: no such cell") w) := by
      simp only [part, Sem.run_bind, hT.run_isAgg, ha, Result.andThen_ok]
      cases vs[o]? <;> simp
    rw [h2] at hr
    cases hv : vs[o]? with
    | none => rw [hv] at hr; cases hr
    | some v =>
      rw [hv] at hr
      simp only [Result.ok.injEq, and_true] at hr
      subst hr
      have := hc 0 v (by simpa using hv)
      exact loadVar_one hT ha a v (by simpa [Addr.add] using this)

theorem qLoad_sound {P : Program} (hP : TIok P ti) (hM : Mem c m h w) (hs : Sub h1 h) {t : Nat} {v : AV} {rv : Value} (hv : VR m c.B h w rv v) {p : Prop} {x : AV} {us : List (Nat × Blk)}
    (hq : qLoad ti h1 t v = some (p, x, us)) (hp : p) : us = [] ∧ ∃ r, (Instr.loadAt t rv).run P w = .ok r w ∧ VR m c.B h w r x := by
  unfold qLoad at hq
  split at hq
  · rename_i i id off hti
    split at hq
    · rename_i cs hcs
      obtain ⟨rcs, ty, hh, hz, hr⟩ := hM.var_cells (hs.var hcs)
      obtain ⟨hu, r, h2, h3⟩ := partA_sound (P := P) (h := h) (w := w) (hP.ok _ _ hti) hz hr hq hp
      refine ⟨hu, r, ?_, h3⟩
      cases hv with
      | ptr _ _ _ =>
        simp only [Instr.loadAt, Instr.sureAddr, Sem.run_bind, Sem.run_pure, Result.andThen_ok]
        refine loadVar_part (hP.ok _ _ hti) _ rcs off (fun j v hj => by rw [add_lit, cell_lit hh]; exact hj) (fun ha => ?_) h2
        simp only [partA, ha, Option.some.injEq, Prod.mk.injEq] at hq
        rw [hz, ]
        exact hq.1 ▸ hp
    · cases hq
  · rename_i i cs l hti
    cases hv with
    | t _ _ _ hr =>
      cases hr with
      | pt a _ vals hb hc hv =>
        have hz : (Array.ofFn (n := cs.length) fun j => vals j).size = cs.length := by simp
        have hcells : ∀ (j : Nat) (v : Value), (Array.ofFn (n := cs.length) fun j => vals j)[0 + j]? = some v → w.cell? (a.add j) = some v := fun j v hj => by
          simp only [Nat.zero_add, Array.getElem?_ofFn] at hj
          split at hj
          · rename_i hlt; simp at hj; subst hj; exact hc j hlt
          · cases hj
        obtain ⟨hu, r, h2, h3⟩ := partT_sound (P := P) (h := h) (hP.ok _ _ hti) (vs := Array.ofFn (n := cs.length) fun j => vals j) hz (fun j v x h1 h2 => by
          simp only [Array.getElem?_ofFn] at h1
          split at h1
          · simp at h1; subst h1; exact hv j x h2
          · cases h1) hq hp
        refine ⟨hu, r, ?_, h3⟩
        simp only [Instr.loadAt, Instr.sureAddr, Sem.run_bind, Sem.run_pure, Result.andThen_ok]
        refine loadVar_part (hP.ok _ _ hti) _ _ 0 hcells (fun ha => ?_) h2
        simp only [partT, ha, Option.some.injEq, Prod.mk.injEq] at hq
        rw [hz]
        exact hq.1 ▸ hp
  · rename_i i id ver k j hti
    split at hq
    · rename_i z es l hrow
      obtain ⟨hid, hrow'⟩ := hs.row hrow
      split at hq
      · rename_i p' v' u' hpart
        simp only [Option.some.injEq, Prod.mk.injEq] at hq
        obtain ⟨rfl, rfl, rfl⟩ := hq
        obtain ⟨hk, hp'⟩ := hp
        obtain ⟨e, he⟩ := Option.isSome_iff_exists.1 hk
        rw [he] at hpart
        simp only [Option.getD_some] at hpart
        obtain ⟨hle, hlr, hez, hmem⟩ := hM.blk _ _ hid
        have hklt : k < es.length := (List.getElem?_eq_some_iff.1 he).1
        obtain ⟨_, _, rcs, ty, hh, hsz, hcell⟩ := hmem (by omega)
        have hel := hez _ _ he
        -- the element's cells
        have hin : k * z + z ≤ rcs.size := by
          have : (k + 1) * z ≤ (m.ψ id).2 * z := Nat.mul_le_mul_right _ (by omega)
          rw [Nat.add_mul] at this
          omega
        have hz : (rcs.extract (k * z) (k * z + z)).size = e.length := by simp; omega
        obtain ⟨hu, r, h2, h3⟩ := partT_sound (P := P) (h := h) (hP.ok _ _ hti) (vs := rcs.extract (k * z) (k * z + z)) hz (fun o v x h1 h2 => by
          rw [Array.getElem?_extract] at h1
          split at h1
          · obtain ⟨v', hv', hrep⟩ := hcell k o e x he h2
            rw [hv'] at h1; simp at h1; subst h1; exact hrep
          · cases h1) hpart hp'
        refine ⟨hu, r, ?_, h3⟩
        cases hv with
        | eptr _ _ _ _ a _ _ ha =>
          have := ha _ _ _ hrow'
          subst this
          simp only [Instr.loadAt, Instr.sureAddr, Sem.run_bind, Sem.run_pure, Result.andThen_ok]
          refine loadVar_part (hP.ok _ _ hti) _ _ j (fun o v ho => ?_) (fun ha' => ?_) h2
          · rw [Array.getElem?_extract] at ho
            split at ho
            · rw [add_lit, add_lit, cell_lit hh]
              rw [← ho]
              congr 1
              omega
            · cases ho
          · simp only [partT, ha', Option.some.injEq, Prod.mk.injEq] at hpart
            rw [hz]
            exact hpart.1 ▸ hp'
      · cases hq
    · cases hq
  · cases hq
end
end Go.Proofs.Ytadnjellfiafaaa.Pm
