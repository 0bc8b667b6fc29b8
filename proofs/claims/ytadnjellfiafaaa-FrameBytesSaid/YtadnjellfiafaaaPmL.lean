/- The abstract machine, twelfth part: literals, make, append. No law of Go's is stated here. -/
import Derived.Test.YtadnjellfiafaaaPmK
set_option linter.all false
namespace Go.Proofs.Ytadnjellfiafaaa.Pm
open Go Go.RowKit

section
variable {P : Program} {w w' : World} {c : Ct} {m m' : Mp} {h h' h1 : H} {ti : Nat → Option TI} {tm : Tm} {a : Act}

theorem foldl_set (off : Nat) : ∀ (new : List Value) (k : Nat) (cells : Array Value), off + k + new.length ≤ cells.size →
    ((new.zipIdx k).foldl (fun cs (p : Value × Nat) => cs.setIfInBounds (off + p.2) p.1) cells).size = cells.size ∧
    ∀ j, ((new.zipIdx k).foldl (fun cs (p : Value × Nat) => cs.setIfInBounds (off + p.2) p.1) cells)[j]? = if off + k ≤ j ∧ j < off + k + new.length then new[j - (off + k)]? else cells[j]?
  | [], k, cells, _ => by
    refine ⟨rfl, fun j => ?_⟩
    rw [if_neg (by rintro ⟨h1, h2⟩; simp at h2; omega)]
    rfl
  | v :: new, k, cells, hl => by
    simp only [List.zipIdx_cons, List.foldl_cons]
    simp only [List.length_cons] at hl
    obtain ⟨h1, h2⟩ := foldl_set off new (k + 1) (cells.setIfInBounds (off + k) v) (by simp; omega)
    refine ⟨by rw [h1]; simp, fun j => ?_⟩
    rw [h2 j]
    by_cases hj : off + (k + 1) ≤ j ∧ j < off + (k + 1) + new.length
    · rw [if_pos hj, if_pos (by simp; omega)]
      rw [show j - (off + k) = (j - (off + (k + 1))) + 1 by omega]
      simp
    · rw [if_neg hj]
      by_cases he : j = off + k
      · subst he
        rw [if_pos (by simp)]
        simp [Array.getElem?_setIfInBounds_self_of_lt (show off + k < cells.size by omega)]
      · rw [if_neg (by simp; omega), Array.getElem?_setIfInBounds_ne (by omega)]

theorem fill_one (place : Nat → Option (Nat × Nat)) (cells : Array Value) (i : Nat) (v : Value) (rest : List (Nat × Value)) {off z : Nat} (hp : place i = some (off, z)) (hz : v.cells.size = z) (hl : off + z ≤ cells.size) :
    ∃ cells', Instr.fill place cells ((i, v) :: rest) = Instr.fill place cells' rest ∧ cells'.size = cells.size ∧ ∀ j, cells'[j]? = if off ≤ j ∧ j < off + z then v.cells[j - off]? else cells[j]? := by
  obtain ⟨h1, h2⟩ := foldl_set off v.cells.toList 0 cells (by simp; omega)
  refine ⟨v.cells.zipIdx.foldl (fun cs (p : Value × Nat) => cs.setIfInBounds (off + p.2) p.1) cells, ?_, ?_, fun j => ?_⟩
  · simp only [Instr.fill, hp]
    rw [if_neg (by simp [hz]; omega)]
  · rw [← Array.foldl_toList, Array.toList_zipIdx]
    exact h1
  · rw [← Array.foldl_toList, Array.toList_zipIdx, h2 j]
    simp only [Nat.add_zero, Array.length_toList, Array.getElem?_toList, hz]

/-- The machine's cells fit. -/
def CellsR (m : Mp) (B : Nat) (h : H) (w : World) (real : Array Value) (cs : List AV) : Prop :=
  real.size = cs.length ∧ ∀ (j : Nat) (u : Value) (x : AV), real[j]? = some u → cs[j]? = some x → VR m B h w u x

theorem setAt_get (cs : List AV) (off : Nat) (new : List AV) (hl : off + new.length ≤ cs.length) : (setAt cs off new).length = cs.length ∧ ∀ j, (setAt cs off new)[j]? = if off ≤ j ∧ j < off + new.length then new[j - off]? else cs[j]? := by
  refine ⟨by simp [setAt]; omega, fun j => ?_⟩
  unfold setAt
  by_cases h1 : j < off
  · rw [if_neg (by omega), List.append_assoc, List.getElem?_append_left (by simp; omega), List.getElem?_take_of_lt h1]
  · by_cases h2 : j < off + new.length
    · rw [if_pos (by omega), List.getElem?_append_left (by simp; omega), List.getElem?_append_right (by simp; omega)]
      congr 1
      simp
      omega
    · rw [if_neg (by omega), List.getElem?_append_right (by simp; omega), List.getElem?_drop]
      congr 1
      simp
      omega

theorem fills_sound (hS : Sat c m h tm a w) {t : Nat} (place : Nat → Option (Nat × Nat)) (hpl : ∀ k o z, placeOf ti t k = some (o, z) → place k = some (o, z)) :
    ∀ (ps : List (Nat × Operand)) (cs cs' : List AV) (real : Array Value), CellsR m c.B h w real cs → fills ti tm t ps cs = some cs' →
    ∃ real', Instr.fill place real (ps.map fun p => (p.1, a.eval p.2)) = some real' ∧ CellsR m c.B h w real' cs'
  | [], cs, cs', real, hr, hf => by
    simp [fills] at hf
    subst hf
    exact ⟨real, by simp [Instr.fill], hr⟩
  | (k, x) :: ps, cs, cs', real, hr, hf => by
    simp only [fills] at hf
    split at hf <;> try cases hf
    rename_i v o z hx hplace
    split at hf <;> try cases hf
    rename_i new hcells
    split at hf <;> try cases hf
    rename_i hcond
    obtain ⟨hc1, hc2⟩ := hcond
    obtain ⟨hsz, hvr⟩ := cells_vr hcells (ev_vr hS hx)
    obtain ⟨real1, e1, e2, e3⟩ := fill_one place real k (a.eval x) (ps.map fun p => (p.1, a.eval p.2)) (hpl _ _ _ hplace) (hsz.trans hc1) (by rw [hr.1]; exact hc2)
    obtain ⟨s1, s2⟩ := setAt_get cs o new (by omega)
    have hr1 : CellsR m c.B h w real1 (setAt cs o new) := by
      refine ⟨by rw [e2, s1, hr.1], fun j u y hu hy => ?_⟩
      rw [e3 j] at hu
      rw [s2 j] at hy
      by_cases hj : o ≤ j ∧ j < o + z
      · rw [if_pos hj] at hu
        rw [if_pos (by omega)] at hy
        exact hvr _ _ _ hu hy
      · rw [if_neg hj] at hu
        rw [if_neg (by omega)] at hy
        exact hr.2 _ _ _ hu hy
    obtain ⟨real', h3, h4⟩ := fills_sound hS place hpl ps _ _ real1 hr1 hf
    exact ⟨real', by simp only [List.map_cons]; rw [e1]; exact h3, h4⟩

theorem zAV_vr {v : Value} {x : T} (hc : cT v = some x) : VR m c.B h w v (zAV x) := by
  unfold zAV
  split
  · unfold cT at hc
    split at hc <;> simp at hc
    exact .nl
  · exact .t _ _ _ (cT_rep hc)
theorem zero_cells {t : Nat} {i : TI} (hT : TIr P t i) : ∃ inf zv, P.info? t = some inf ∧ inf.zero = some zv ∧ inf.size = i.sz ∧ inf.bytes = i.nb ∧ zv.cells.size = i.sz ∧ CellsR m c.B h w zv.cells (i.z.map zAV) ∧
    (i.z.length = i.sz) ∧ ∀ (B : Nat → Prop) (j : Nat) (u : Value) (x : T), zv.cells[j]? = some u → i.z[j]? = some x → Rep w B u x := by
  obtain ⟨inf, hi, hs, hb, zv, hz, hct, hzs⟩ := hT.info
  obtain ⟨hl, hg⟩ := cTs_get hct
  refine ⟨inf, zv, hi, hz, hs, hb, hzs, ⟨by simpa using hl, fun j u x hu hx => ?_⟩, by rw [← hl]; simpa using hzs, fun B j u x hu hx => cT_rep (hg j u x (by simpa using hu) hx)⟩
  rw [List.getElem?_map] at hx
  simp only [Option.map_eq_some_iff] at hx
  obtain ⟨y, hy, rfl⟩ := hx
  exact zAV_vr (hg j u y (by simpa using hu) hy)

theorem mapM_get {α β : Type} (f : α → Option β) : ∀ (l : List α) (r : List β), l.mapM f = some r → ∀ (k : Nat) (x : α) (y : β), l[k]? = some x → f x = some y → r[k]? = some y
  | [], r, hr, k, x, y, hx, _ => by simp at hx
  | b :: l, r, hr, k, x, y, hx, hy => by
    rw [List.mapM_cons] at hr
    simp only [bind, Option.bind_eq_some_iff, pure, Option.some.injEq] at hr
    obtain ⟨y0, h1, r', h2, rfl⟩ := hr
    cases k with
    | zero => simp at hx; subst hx; rw [h1] at hy; simpa using hy
    | succ k => simp at hx; simpa using mapM_get f l r' h2 k x y hx hy

theorem build_sound (hP : TIok P ti) (hS : Sat c m h tm a w) {t : Nat} {i : TI} (hti : ti t = some i) {ps : Array (Nat × Operand)} {cs : List AV} (hf : fills ti tm t ps.toList (i.z.map zAV) = some cs) (hagg : built ti i.d = true) :
    ∃ real, (Instr.build t (ps.map fun (i, x) => (i, a.eval x))).run P w = .ok (.agg real) w ∧ CellsR m c.B h w real cs := by
  have hT := hP.ok _ _ hti
  obtain ⟨inf, zv, hi, hz, hs, hb, hzs, hcr, _⟩ := zero_cells (m := m) (c := c) (h := h) (w := w) hT
  obtain ⟨d, hd, hdk⟩ := hT.und
  have hparts : (ps.map fun (i, x) => (i, a.eval x)).toList = ps.toList.map fun p => (p.1, a.eval p.2) := by simp
  cases hid : i.d <;> rw [hid] at hdk <;> try (rw [hid] at hagg; exact (Bool.false_ne_true hagg).elim)
  case array n e =>
    cases d <;> first | exact (Bool.false_ne_true hdk).elim | skip
    rename_i n' e'
    simp only [dOK, Bool.and_eq_true, beq_iff_eq] at hdk
    obtain ⟨rfl, rfl⟩ := hdk
    have hA : elemOfA ti t = (ti e').map fun j => (n', j) := by
      obtain ⟨id, isz, inb, iz⟩ := i
      simp only at hid
      subst hid
      simp [elemOfA, hti]
    cases hte : ti e' with
      | none => rw [hid] at hagg; simp [built, hte] at hagg
      | some j =>
        have hTe := hP.ok _ _ hte
        obtain ⟨ie, hie, hies, _⟩ := hTe.info
        obtain ⟨real, h1, h2⟩ := fills_sound hS (fun k => some (k * ie.size, ie.size)) (t := t) (fun k o z hk => by
          have h1 : fieldOf ti t k = none := by
            obtain ⟨id, isz, inb, iz⟩ := i
            simp only at hid
            subst hid
            simp [fieldOf, hti]
          simp [placeOf, h1, hA, hte] at hk
          obtain ⟨rfl, rfl⟩ := hk
          simp [hies]) ps.toList _ _ zv.cells hcr hf
        refine ⟨real, run_build w t _ _ ?_, h2⟩
        simp only [Program.built, hi, hd, hz, hie, hparts]
        exact h1
  case struct l =>
    cases d <;> first | exact (Bool.false_ne_true hdk).elim | skip
    rename_i fs
    obtain ⟨places, hpl⟩ := Option.isSome_iff_exists.1 (hT.flds fs hd)
    obtain ⟨real, h1, h2⟩ := fills_sound hS (fun k => places.toArray[k]?) (t := t) (fun k o z hk => by
      have hA : elemOfA ti t = none := by
        obtain ⟨id, isz, inb, iz⟩ := i
        simp only at hid
        subst hid
        simp [elemOfA, hti]
      unfold placeOf at hk
      split at hk
      · rename_i o' i' hfo
        simp only [Option.some.injEq, Prod.mk.injEq] at hk
        obtain ⟨rfl, rfl⟩ := hk
        obtain ⟨fs', fl, hu, hfl, rfl, hTf⟩ := fieldOf_some hP hfo
        rw [hd] at hu
        simp only [Option.some.injEq, TypeDesc.struct.injEq] at hu
        subst hu
        obtain ⟨inf', hi', hs', _⟩ := hTf.info
        have := mapM_get _ _ _ hpl k fl (fl.offset, i'.sz) (by simpa using hfl) (by simp [hi', hs'])
        simpa using this
      · rw [hA] at hk; cases hk) ps.toList _ _ zv.cells hcr hf
    refine ⟨real, run_build w t _ _ ?_, h2⟩
    simp only [Program.built, hi, hd, hz, hpl, hparts]
    exact h1
end
end Go.Proofs.Ytadnjellfiafaaa.Pm
