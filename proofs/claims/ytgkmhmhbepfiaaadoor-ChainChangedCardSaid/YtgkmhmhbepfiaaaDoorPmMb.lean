/- Texts of this proof in one file: PmK, PmL, PmM, PmN, PmO, PmP, PmQ, PmR, PmRi, PmS, PmFt, PmDr. No law of Go's is stated here. -/
import Derived.Test.YtgkmhmhbepfiaaaDoorPmMa
import Derived.Lib.AppendZerosOnto
import Derived.Great.BuildSlice
import Derived.Deep.LoopGhost
import Derived.Orders
set_option linter.all false
namespace Go.Proofs.YtgkmhmhbepfiaaaDoor.Pm
open Go Go.RowKit
section
variable {P : Program} {w w' : World} {c : Ct} {m m' : Mp} {h h' h1 : H} {ti : Nat → Option TI} {tm : Tm} {a : Act}
theorem uH_cons (h : H) (u : Nat × Blk) (us : List (Nat × Blk)) : uH h (u :: us) = uH (setH h u.1 u.2) us := rfl
theorem uH_append (h : H) (us vs : List (Nat × Blk)) : uH h (us ++ vs) = uH (uH h us) vs := by
  induction us generalizing h with
  | nil => rfl
  | cons u us ih => simp only [List.cons_append, uH_cons, ih]
theorem goesAll {w : World} {c : Ct} : ∀ (ids : List Nat) {m : Mp} {h : H}, Mem c m h w → (∀ id ∈ ids, (∃ ver z es l, h id = some (.row ver z es l)) ∨ h id = some .gone) →
    ∃ st', Ext m h w { m with st := st' } (uH h (ids.map fun i => (i, .gone))) w ∧ Mem c { m with st := st' } (uH h (ids.map fun i => (i, .gone))) w ∧
      (∀ b, m.st b → st' b) ∧ (∀ id ∈ ids, ∀ ver z es l, h id = some (.row ver z es l) → 0 < (m.ψ id).2 → st' (m.ψ id).1)
  | [], m, h, hM, _ => ⟨m.st, Ext.refl _ _ _, hM, fun _ h => h, by simp⟩
  | id :: ids, m, h, hM, hall => by
    simp only [List.map_cons, uH_cons]
    rcases hall id (by simp) with ⟨ver, z, es, l, hid⟩ | hid
    · obtain ⟨e1, M1⟩ := hM.goes hid
      have hall' : ∀ i ∈ ids, (∃ ver z es l, setH h id .gone i = some (.row ver z es l)) ∨ setH h id .gone i = some .gone := fun i hi => by
        by_cases e : i = id
        · subst e; exact .inr (by simp [setH])
        · rw [show setH h id .gone i = h i by simp [setH, e]]; exact hall i (List.mem_cons_of_mem _ hi)
      obtain ⟨st', e2, M2, h2, h3⟩ := goesAll ids M1 hall'
      refine ⟨st', e1.trans e2, M2, fun b hb => h2 b (.inl hb), fun i hi ver' z' es' l' hir h0 => ?_⟩
      by_cases e : i = id
      · subst e; exact h2 _ (.inr ⟨h0, rfl⟩)
      · have hi' : i ∈ ids := by simpa [e] using hi
        exact h3 i hi' ver' z' es' l' (by simp only [setH, if_neg e]; exact hir) h0
    · have hself : setH h id .gone = h := by
        funext i
        by_cases e : i = id
        · subst e; simp [setH, hid]
        · simp [setH, e]
      rw [hself]
      obtain ⟨st', e2, M2, h2, h3⟩ := goesAll ids hM fun i hi => hall i (by simp [hi])
      refine ⟨st', e2, M2, h2, fun i hi ver' z' es' l' hir h0 => ?_⟩
      by_cases e : i = id
      · subst e; rw [hid] at hir; cases hir
      · exact h3 i (by simpa [e] using hi) ver' z' es' l' hir h0
def gok (m : Mp) (B : Nat) (ids : List Nat) (l : Bool) : Nat → Prop := fun b => (m.st b ∨ ∃ id ∈ ids, 0 < (m.ψ id).2 ∧ b = (m.ψ id).1) ∧ (l = true → B ≤ b)
theorem flat_rep {B B' : Nat → Prop} {v : Value} {x : T} (hx : x.flat = true) (hr : Rep w B v x) : Rep w B' v x := by
  cases hr <;> simp only [T.flat, Bool.false_eq_true] at hx
  · exact .i _ _
  · exact .b _
  · exact .s _
theorem emb_rep (hM : Mem c m h w) {v : AV} {r : T × Bool × List (Nat × Blk)} (he : emb h v = some r) {rv : Value} (hv : VR m c.B h w rv v) :
    ∃ ids, r.2.2 = ids.map (fun i => (i, .gone)) ∧ (∀ id ∈ ids, ∃ ver z es l, h id = some (.row ver z es l)) ∧ Rep w (gok m c.B ids r.2.1) rv r.1 := by
  cases v <;> simp only [emb, Option.some.injEq, reduceCtorEq] at he
  case t x l =>
    subst he
    cases hv with
    | t _ _ _ hr =>
      refine ⟨[], rfl, by simp, ?_⟩
      cases hx : x.flat with
      | true => exact flat_rep hx hr
      | false => exact hr.mono (fun b hb => ⟨.inl hb.1, by simpa using hb.2⟩) (fun _ _ => rfl)
  case nl => subst he; cases hv; exact ⟨[], rfl, by simp, Rep.nilslice _⟩
  case e0 => subst he; cases hv; exact ⟨[], rfl, by simp, Rep.nilslice _⟩
  case row id ver off len =>
    split at he <;> try cases he
    rename_i z es l hr
    split at he <;> simp only [Option.some.injEq, reduceCtorEq] at he
    rename_i hl
    subst he
    refine ⟨[id], rfl, fun i hi => by rw [List.mem_singleton] at hi; subst hi; exact ⟨_, _, _, _, rowOf_some hr⟩, (row_rep hM hv hr hl).mono (fun b hb => ⟨?_, hb.2⟩) (fun _ _ => rfl)⟩
    rcases hb.1 with h1 | h1
    · exact .inl h1
    · exact .inr ⟨id, by simp, h1⟩
theorem gok_mono {B : Nat} {ids ids' : List Nat} (hi : ∀ i ∈ ids, i ∈ ids') {l l' : Bool} (hl : l' = true → l = true) {v : Value} {x : T} (hr : Rep w (gok m B ids l) v x) : Rep w (gok m B ids' l') v x := by
  refine hr.mono (fun b hb => ⟨?_, fun e => hb.2 (hl e)⟩) (fun _ _ => rfl)
  rcases hb.1 with h1 | ⟨i, h1, h2⟩
  · exact .inl h1
  · exact .inr ⟨i, hi i h1, h2⟩
theorem embs_rep (hM : Mem c m h w) : ∀ {vs : List AV} {r : List T × Bool × List (Nat × Blk)}, embs h vs = some r → ∀ {rvs : List Value}, rvs.length = vs.length →
    (∀ (j : Nat) (v : Value) (x : AV), rvs[j]? = some v → vs[j]? = some x → VR m c.B h w v x) →
    ∃ ids, r.2.2 = ids.map (fun i => (i, .gone)) ∧ (∀ id ∈ ids, ∃ ver z es l, h id = some (.row ver z es l)) ∧ r.1.length = vs.length ∧
      ∀ (j : Nat) (v : Value) (x : T), rvs[j]? = some v → r.1[j]? = some x → Rep w (gok m c.B ids r.2.1) v x
  | [], r, he, rvs, hl, hv => by simp [embs] at he; subst he; exact ⟨[], rfl, by simp, rfl, by simp⟩
  | v :: vs, r, he, rvs, hl, hv => by
    simp only [embs] at he
    split at he <;> simp only [Option.some.injEq, reduceCtorEq] at he
    rename_i x l u xs k us h1 h2
    subst he
    match rvs, hl with
    | rv :: rvs, hl =>
      obtain ⟨i1, e1, r1, p1⟩ := emb_rep hM h1 (hv 0 rv v rfl rfl)
      obtain ⟨i2, e2, r2, l2, p2⟩ := embs_rep hM h2 (rvs := rvs) (by simpa using hl) fun j v' x' a b => hv (j + 1) v' x' (by simpa using a) (by simpa using b)
      simp only at e1 e2
      refine ⟨i1 ++ i2, by simp [e1, e2], fun id hid => ?_, by simp [l2], fun j v' x' a b => ?_⟩
      · rcases List.mem_append.1 hid with h | h
        · exact r1 id h
        · exact r2 id h
      · cases j with
        | zero => simp at a b; subst a; subst b; exact gok_mono (fun i hi => List.mem_append_left _ hi) (by simp; intro a _; exact a) p1
        | succ j => simp at a b; exact gok_mono (fun i hi => List.mem_append_right _ hi) (by simp) (p2 j v' x' a b)
theorem cells_vr {v : AV} {cs : List AV} (hc : v.cells = some cs) {rv : Value} (hv : VR m c.B h w rv v) :
    rv.cells.size = cs.length ∧ ∀ (j : Nat) (u : Value) (x : AV), rv.cells[j]? = some u → cs[j]? = some x → VR m c.B h w u x := by
  have one : ∀ (rv : Value) (v : AV), rv.cells = #[rv] → VR m c.B h w rv v → cs = [v] →
      rv.cells.size = cs.length ∧ ∀ (j : Nat) (u : Value) (x : AV), rv.cells[j]? = some u → cs[j]? = some x → VR m c.B h w u x := by
    intro rv v e hv e2
    subst e2
    rw [e]
    refine ⟨rfl, fun j u x hu hx => ?_⟩
    cases j with
    | zero => simp at hu hx; subst hu; subst hx; exact hv
    | succ j => simp at hx
  cases hv' : v <;> subst hv' <;> simp only [AV.cells, Option.some.injEq, reduceCtorEq] at hc
  case agg cs' => subst hc; cases hv with | agg vs _ hs hvv => exact ⟨hs, hvv⟩
  case t x l =>
    cases hv with
    | t _ _ _ hr =>
      cases hr <;> simp only [Option.some.injEq, reduceCtorEq] at hc
      case agg vs cs' hs hvv =>
        subst hc
        refine ⟨by simpa [Value.cells] using hs, fun j u x hu hx => ?_⟩
        rw [List.getElem?_map] at hx
        simp only [Option.map_eq_some_iff] at hx
        obtain ⟨y, hy, rfl⟩ := hx
        exact .t _ _ _ (hvv j u y hu hy)
      case i => exact one _ _ rfl (.t _ _ _ (.i _ _)) hc.symm
      case b => exact one _ _ rfl (.t _ _ _ (.b _)) hc.symm
      case s => exact one _ _ rfl (.t _ _ _ (.s _)) hc.symm
      case nl => exact one _ _ rfl (.t _ _ _ .nl) hc.symm
      case sl A n k es z vals hn hc' hm hz0 hz hA hv => exact one _ _ rfl (.t _ _ _ (.sl A n k es z vals hn hc' hm hz0 hz hA hv)) hc.symm
      case ne a k => exact one _ _ rfl (.t _ _ _ (.ne a k)) hc.symm
      case pt => exact one _ _ rfl (.t _ _ _ (.pt _ _ _ ‹_› ‹_› ‹_›)) hc.symm
      case inn hone hr => exact one _ _ (by cases rv <;> first | rfl | (simp [Value.oneCell'] at hone)) (.t _ _ _ (.inn _ _ _ hone hr)) hc.symm
      case fn vs cs' f hs h' => exact one _ _ rfl (.t _ _ _ (.fn _ _ _ hs h')) hc.symm
      case val hone => exact one _ _ (by cases rv <;> first | rfl | (simp [Value.oneCell'] at hone)) (.t _ _ _ (.val _ hone)) hc.symm
      case what hone => exact one _ _ (by cases rv <;> first | rfl | (simp [Value.oneCell'] at hone)) (.t _ _ _ (.what _ hone)) hc.symm
  case nl => cases hv; exact one _ _ rfl .nl hc.symm
  case e0 => cases hv; exact one _ _ rfl (.e0 _) hc.symm
  case row => cases hv with | row _ _ _ _ k A hid hver hc' hr => exact one _ _ rfl (.row _ _ _ _ k A hid hver hc' hr) hc.symm
  case vs => cases hv with | vs _ _ _ _ k A hid hc' hA => exact one _ _ rfl (.vs _ _ _ _ k A hid hc' hA) hc.symm
  case ptr => cases hv with | ptr _ _ hid => exact one _ _ rfl (.ptr _ _ hid) hc.symm
  case eptr => cases hv with | eptr _ _ _ _ x hid hver hr => exact one _ _ rfl (.eptr _ _ _ _ x hid hver hr) hc.symm
  case fn => cases hv with | fn _ vs _ hs hv => exact one _ _ rfl (.fn _ vs _ hs hv) hc.symm
theorem below_alloc' (w : World) (o : Obj) : Below w.heap.size w (w.alloc o) := (Below.refl _ w).alloc (Nat.le_refl _) o
theorem Mem.newVar (hM : Mem c m h w) {n : Nat} (hn : h n = none) (rcs : Array Value) (ty : TypeId) (cs : List AV) (hsz : rcs.size = cs.length)
    (hv : ∀ (j : Nat) (v : Value) (x : AV), rcs[j]? = some v → cs[j]? = some x → VR m c.B h w v x) :
    ∃ m', Ext m h w m' (setH h n (.var cs)) (w.alloc (.cells rcs ty)) ∧ Mem c m' (setH h n (.var cs)) (w.alloc (.cells rcs ty)) ∧ m'.φ n = w.heap.size := by
  obtain ⟨e1, M1⟩ := hM.grow (below_alloc' w (.cells rcs ty))
  obtain ⟨e2, M2⟩ := M1.add (n := n) hn (.var cs) w.heap.size (m.ψ n) (fun g hg => by
    simp [placeB, setF] at hg
    subst hg
    refine ⟨hM.bsize, fun hs => Nat.lt_irrefl _ (hM.stlt _ hs), fun i hi => Nat.lt_irrefl _ (hM.place_lt hi).1, fun hR => Nat.lt_irrefl _ (hM.res _ hR).1⟩) (fun he => by
    refine ⟨by simpa [setF] using hM.bsize, fun hs => Nat.lt_irrefl w.heap.size (by simpa [setF] using hM.stlt _ hs), rcs, ty, by simp only [setF, if_true]; exact heap_alloc_new w _, hsz, fun j v x h1 h2 => ?_⟩
    exact ((hv j v x h1 h2).mono e1).mono he)
  exact ⟨_, e1.trans e2, M2, by simp [setF]⟩
theorem Mem.newRow (hM : Mem c m h w) {n : Nat} (hn : h n = none) (rcs : Array Value) (ty : TypeId) (z cap : Nat) (es : List (List T)) (l : Bool) (h1 : es.length ≤ cap) (h2 : es.length ≤ room)
    (h3 : ∀ (i : Nat) (e : List T), es[i]? = some e → e.length = z) (h4 : cap * z ≤ rcs.size)
    (hv : ∀ (i j : Nat) (e : List T) (x : T), es[i]? = some e → e[j]? = some x → ∃ v, rcs[i * z + j]? = some v ∧ Rep w (m.ok c.B l) v x) :
    ∃ m', Ext m h w m' (setH h n (.row 0 z es l)) (w.alloc (.cells rcs ty)) ∧ Mem c m' (setH h n (.row 0 z es l)) (w.alloc (.cells rcs ty)) ∧ m'.ψ n = (w.heap.size, cap) := by
  obtain ⟨e1, M1⟩ := hM.grow (below_alloc' w (.cells rcs ty))
  obtain ⟨e2, M2⟩ := M1.add (n := n) hn (.row 0 z es l) (m.φ n) (w.heap.size, cap) (fun g hg => by
    simp [placeB, setF] at hg
    obtain ⟨_, rfl⟩ := hg
    refine ⟨hM.bsize, fun hs => Nat.lt_irrefl _ (hM.stlt _ hs), fun i hi => Nat.lt_irrefl _ (hM.place_lt hi).1, fun hR => Nat.lt_irrefl _ (hM.res _ hR).1⟩) (fun he => by
    refine ⟨by simpa [setF] using h1, h2, h3, fun h0 => ⟨by simpa [setF] using hM.bsize, fun hs => Nat.lt_irrefl w.heap.size (by simpa [setF] using hM.stlt _ hs), rcs, ty, by simp only [setF, if_true]; exact heap_alloc_new w _, by simpa [setF] using h4, fun i j e x a b => ?_⟩⟩
    obtain ⟨v, hv1, hv2⟩ := hv i j e x a b
    exact ⟨v, hv1, hv2.mono (fun _ hb => hb) (fun b hb => e1.heap b hb.1)⟩)
  exact ⟨_, e1.trans e2, M2, by simp [setF]⟩
theorem row_new {n : Nat} {z cap len : Nat} {es : List (List T)} {l : Bool} {m : Mp} (hψ : m.ψ n = (w.heap.size, cap)) (hl : len ≤ cap) {W : World} {B : Nat} (hh : h n = some (.row 0 z es l)) :
    VR m B h W (.slice (some ⟨w.heap.size, 0, none⟩) len cap) (.row n 0 0 len) := by
  refine .row n 0 0 len cap _ (by rw [hh]; rfl) (fun _ _ _ _ _ => Nat.zero_le _) hl fun z' es' l' hr => ⟨by rw [hψ]; simp, fun _ => ?_⟩
  rw [hψ, add_lit]
  simp
end
end Go.Proofs.YtgkmhmhbepfiaaaDoor.Pm
set_option linter.all false
namespace Go.Proofs.YtgkmhmhbepfiaaaDoor.Pm
open Go Go.RowKit
section
variable {P : Program} {w w' : World} {c : Ct} {m m' : Mp} {h h' h1 : H} {ti : Nat → Option TI} {tm : Tm} {a : Act}
theorem foldl_set (off : Nat) : ∀ (new : List Value) (k : Nat) (cells : Array Value), off + k + new.length ≤ cells.size →
    ((new.zipIdx k).foldl (fun cs (p : Value × Nat) => cs.setIfInBounds (off + p.2) p.1) cells).size = cells.size ∧
    ∀ j, ((new.zipIdx k).foldl (fun cs (p : Value × Nat) => cs.setIfInBounds (off + p.2) p.1) cells)[j]? = if off + k ≤ j ∧ j < off + k + new.length then new[j - (off + k)]? else cells[j]?
  | [], k, cells, _ => by
    refine ⟨rfl, fun j => ?_⟩
    rw [if_neg (by rintro ⟨h1, h2⟩; simp at h2; omega)]
    rfl
  | v :: new, k, cells, hl => by
    simp only [List.zipIdx_cons, List.foldl_cons]
    simp only [List.length_cons] at hl
    obtain ⟨h1, h2⟩ := foldl_set off new (k + 1) (cells.setIfInBounds (off + k) v) (by simp; omega)
    refine ⟨by rw [h1]; simp, fun j => ?_⟩
    rw [h2 j]
    by_cases hj : off + (k + 1) ≤ j ∧ j < off + (k + 1) + new.length
    · rw [if_pos hj, if_pos (by simp; omega)]
      rw [show j - (off + k) = (j - (off + (k + 1))) + 1 by omega]
      simp
    · rw [if_neg hj]
      by_cases he : j = off + k
      · subst he
        rw [if_pos (by simp)]
        simp [Array.getElem?_setIfInBounds_self_of_lt (show off + k < cells.size by omega)]
      · rw [if_neg (by simp; omega), Array.getElem?_setIfInBounds_ne (by omega)]
theorem fill_one (place : Nat → Option (Nat × Nat)) (cells : Array Value) (i : Nat) (v : Value) (rest : List (Nat × Value)) {off z : Nat} (hp : place i = some (off, z)) (hz : v.cells.size = z) (hl : off + z ≤ cells.size) :
    ∃ cells', Instr.fill place cells ((i, v) :: rest) = Instr.fill place cells' rest ∧ cells'.size = cells.size ∧ ∀ j, cells'[j]? = if off ≤ j ∧ j < off + z then v.cells[j - off]? else cells[j]? := by
  obtain ⟨h1, h2⟩ := foldl_set off v.cells.toList 0 cells (by simp; omega)
  refine ⟨v.cells.zipIdx.foldl (fun cs (p : Value × Nat) => cs.setIfInBounds (off + p.2) p.1) cells, ?_, ?_, fun j => ?_⟩
  · simp only [Instr.fill, hp]
    rw [if_neg (by simp [hz]; omega)]
  · rw [← Array.foldl_toList, Array.toList_zipIdx]
    exact h1
  · rw [← Array.foldl_toList, Array.toList_zipIdx, h2 j]
    simp only [Nat.add_zero, Array.length_toList, Array.getElem?_toList, hz]
def CellsR (m : Mp) (B : Nat) (h : H) (w : World) (real : Array Value) (cs : List AV) : Prop :=
  real.size = cs.length ∧ ∀ (j : Nat) (u : Value) (x : AV), real[j]? = some u → cs[j]? = some x → VR m B h w u x
theorem setAt_get (cs : List AV) (off : Nat) (new : List AV) (hl : off + new.length ≤ cs.length) : (setAt cs off new).length = cs.length ∧ ∀ j, (setAt cs off new)[j]? = if off ≤ j ∧ j < off + new.length then new[j - off]? else cs[j]? := by
  refine ⟨by simp [setAt]; omega, fun j => ?_⟩
  unfold setAt
  by_cases h1 : j < off
  · rw [if_neg (by omega), List.append_assoc, List.getElem?_append_left (by simp; omega), List.getElem?_take_of_lt h1]
  · by_cases h2 : j < off + new.length
    · rw [if_pos (by omega), List.getElem?_append_left (by simp; omega), List.getElem?_append_right (by simp; omega)]
      congr 1
      simp
      omega
    · rw [if_neg (by omega), List.getElem?_append_right (by simp; omega), List.getElem?_drop]
      congr 1
      simp
      omega
theorem fills_sound (hS : Sat c m h tm a w) {t : Nat} (place : Nat → Option (Nat × Nat)) (hpl : ∀ k o z, placeOf ti t k = some (o, z) → place k = some (o, z)) :
    ∀ (ps : List (Nat × Operand)) (cs cs' : List AV) (real : Array Value), CellsR m c.B h w real cs → fills ti tm t ps cs = some cs' →
    ∃ real', Instr.fill place real (ps.map fun p => (p.1, a.eval p.2)) = some real' ∧ CellsR m c.B h w real' cs'
  | [], cs, cs', real, hr, hf => by
    simp [fills] at hf
    subst hf
    exact ⟨real, by simp [Instr.fill], hr⟩
  | (k, x) :: ps, cs, cs', real, hr, hf => by
    simp only [fills] at hf
    split at hf <;> try cases hf
    rename_i v o z hx hplace
    split at hf <;> try cases hf
    rename_i new hcells
    split at hf <;> try cases hf
    rename_i hcond
    obtain ⟨hc1, hc2⟩ := hcond
    obtain ⟨hsz, hvr⟩ := cells_vr hcells (ev_vr hS hx)
    obtain ⟨real1, e1, e2, e3⟩ := fill_one place real k (a.eval x) (ps.map fun p => (p.1, a.eval p.2)) (hpl _ _ _ hplace) (hsz.trans hc1) (by rw [hr.1]; exact hc2)
    obtain ⟨s1, s2⟩ := setAt_get cs o new (by omega)
    have hr1 : CellsR m c.B h w real1 (setAt cs o new) := by
      refine ⟨by rw [e2, s1, hr.1], fun j u y hu hy => ?_⟩
      rw [e3 j] at hu
      rw [s2 j] at hy
      by_cases hj : o ≤ j ∧ j < o + z
      · rw [if_pos hj] at hu
        rw [if_pos (by omega)] at hy
        exact hvr _ _ _ hu hy
      · rw [if_neg hj] at hu
        rw [if_neg (by omega)] at hy
        exact hr.2 _ _ _ hu hy
    obtain ⟨real', h3, h4⟩ := fills_sound hS place hpl ps _ _ real1 hr1 hf
    exact ⟨real', by simp only [List.map_cons]; rw [e1]; exact h3, h4⟩
theorem zAV_vr {v : Value} {x : T} (hc : cT v = some x) : VR m c.B h w v (zAV x) := by
  unfold zAV
  split
  · unfold cT at hc
    split at hc <;> simp at hc
    exact .nl
  · exact .t _ _ _ (cT_rep hc)
theorem zero_cells {t : Nat} {i : TI} (hT : TIr P t i) : ∃ inf zv, P.info? t = some inf ∧ inf.zero = some zv ∧ inf.size = i.sz ∧ inf.bytes = i.nb ∧ zv.cells.size = i.sz ∧ CellsR m c.B h w zv.cells (i.z.map zAV) ∧
    (i.z.length = i.sz) ∧ ∀ (B : Nat → Prop) (j : Nat) (u : Value) (x : T), zv.cells[j]? = some u → i.z[j]? = some x → Rep w B u x := by
  obtain ⟨inf, hi, hs, hb, zv, hz, hct, hzs⟩ := hT.info
  obtain ⟨hl, hg⟩ := cTs_get hct
  refine ⟨inf, zv, hi, hz, hs, hb, hzs, ⟨by simpa using hl, fun j u x hu hx => ?_⟩, by rw [← hl]; simpa using hzs, fun B j u x hu hx => cT_rep (hg j u x (by simpa using hu) hx)⟩
  rw [List.getElem?_map] at hx
  simp only [Option.map_eq_some_iff] at hx
  obtain ⟨y, hy, rfl⟩ := hx
  exact zAV_vr (hg j u y (by simpa using hu) hy)
theorem mapM_get {α β : Type} (f : α → Option β) : ∀ (l : List α) (r : List β), l.mapM f = some r → ∀ (k : Nat) (x : α) (y : β), l[k]? = some x → f x = some y → r[k]? = some y
  | [], r, hr, k, x, y, hx, _ => by simp at hx
  | b :: l, r, hr, k, x, y, hx, hy => by
    rw [List.mapM_cons] at hr
    simp only [bind, Option.bind_eq_some_iff, pure, Option.some.injEq] at hr
    obtain ⟨y0, h1, r', h2, rfl⟩ := hr
    cases k with
    | zero => simp at hx; subst hx; rw [h1] at hy; simpa using hy
    | succ k => simp at hx; simpa using mapM_get f l r' h2 k x y hx hy
theorem build_sound (hP : TIok P ti) (hS : Sat c m h tm a w) {t : Nat} {i : TI} (hti : ti t = some i) {ps : Array (Nat × Operand)} {cs : List AV} (hf : fills ti tm t ps.toList (i.z.map zAV) = some cs) (hagg : built ti i.d = true) :
    ∃ real, (Instr.build t (ps.map fun (i, x) => (i, a.eval x))).run P w = .ok (.agg real) w ∧ CellsR m c.B h w real cs := by
  have hT := hP.ok _ _ hti
  obtain ⟨inf, zv, hi, hz, hs, hb, hzs, hcr, _⟩ := zero_cells (m := m) (c := c) (h := h) (w := w) hT
  obtain ⟨d, hd, hdk⟩ := hT.und
  have hparts : (ps.map fun (i, x) => (i, a.eval x)).toList = ps.toList.map fun p => (p.1, a.eval p.2) := by simp
  cases hid : i.d <;> rw [hid] at hdk <;> try (rw [hid] at hagg; exact (Bool.false_ne_true hagg).elim)
  case array n e =>
    cases d <;> first | exact (Bool.false_ne_true hdk).elim | skip
    rename_i n' e'
    simp only [dOK, Bool.and_eq_true, beq_iff_eq] at hdk
    obtain ⟨rfl, rfl⟩ := hdk
    have hA : elemOfA ti t = (ti e').map fun j => (n', j) := by
      obtain ⟨id, isz, inb, iz⟩ := i
      simp only at hid
      subst hid
      simp [elemOfA, hti]
    cases hte : ti e' with
      | none => rw [hid] at hagg; simp [built, hte] at hagg
      | some j =>
        have hTe := hP.ok _ _ hte
        obtain ⟨ie, hie, hies, _⟩ := hTe.info
        obtain ⟨real, h1, h2⟩ := fills_sound hS (fun k => some (k * ie.size, ie.size)) (t := t) (fun k o z hk => by
          have h1 : fieldOf ti t k = none := by
            obtain ⟨id, isz, inb, iz⟩ := i
            simp only at hid
            subst hid
            simp [fieldOf, hti]
          simp [placeOf, h1, hA, hte] at hk
          obtain ⟨rfl, rfl⟩ := hk
          simp [hies]) ps.toList _ _ zv.cells hcr hf
        refine ⟨real, run_build w t _ _ ?_, h2⟩
        simp only [Program.built, hi, hd, hz, hie, hparts]
        exact h1
  case struct l =>
    cases d <;> first | exact (Bool.false_ne_true hdk).elim | skip
    rename_i fs
    obtain ⟨places, hpl⟩ := Option.isSome_iff_exists.1 (hT.flds fs hd)
    obtain ⟨real, h1, h2⟩ := fills_sound hS (fun k => places.toArray[k]?) (t := t) (fun k o z hk => by
      have hA : elemOfA ti t = none := by
        obtain ⟨id, isz, inb, iz⟩ := i
        simp only at hid
        subst hid
        simp [elemOfA, hti]
      unfold placeOf at hk
      split at hk
      · rename_i o' i' hfo
        simp only [Option.some.injEq, Prod.mk.injEq] at hk
        obtain ⟨rfl, rfl⟩ := hk
        obtain ⟨fs', fl, hu, hfl, rfl, hTf⟩ := fieldOf_some hP hfo
        rw [hd] at hu
        simp only [Option.some.injEq, TypeDesc.struct.injEq] at hu
        subst hu
        obtain ⟨inf', hi', hs', _⟩ := hTf.info
        have := mapM_get _ _ _ hpl k fl (fl.offset, i'.sz) (by simpa using hfl) (by simp [hi', hs'])
        simpa using this
      · rw [hA] at hk; cases hk) ps.toList _ _ zv.cells hcr hf
    refine ⟨real, run_build w t _ _ ?_, h2⟩
    simp only [Program.built, hi, hd, hz, hpl, hparts]
    exact h1
end
end Go.Proofs.YtgkmhmhbepfiaaaDoor.Pm
set_option linter.all false
namespace Go.Proofs.YtgkmhmhbepfiaaaDoor.Pm
open Go Go.RowKit
section
variable {P : Program} {w w' : World} {c : Ct} {m m' : Mp} {h h' h1 : H} {ti : Nat → Option TI} {tm : Tm} {a : Act}
def RowR (w : World) (B : Nat → Prop) (z : Nat) (real : Array Value) (es : List (List T)) : Prop :=
  real.size = es.length * z ∧ (∀ (i : Nat) (e : List T), es[i]? = some e → e.length = z) ∧
  ∀ (i j : Nat) (e : List T) (x : T), es[i]? = some e → e[j]? = some x → ∃ v, real[i * z + j]? = some v ∧ Rep w B v x
theorem fillS_sound (hS : Sat c m h tm a w) (hs : Sub h1 h) (z : Nat) : ∀ (ps : List (Nat × Operand)) (es : List (List T)) (r : List (List T) × Bool × List (Nat × Blk)) (real : Array Value) (ids0 : List Nat) (l0 : Bool),
    RowR w (gok m c.B ids0 l0) z real es → fillS h tm z ps es = some r →
    ∃ ids, r.2.2 = ids.map (fun i => (i, .gone)) ∧ (∀ id ∈ ids, ∃ ver z es l, h id = some (.row ver z es l)) ∧ r.1.length = es.length ∧
      ∃ real', Instr.fill (fun i => some (i * z, z)) real (ps.map fun p => (p.1, a.eval p.2)) = some real' ∧ RowR w (gok m c.B (ids0 ++ ids) (l0 && r.2.1)) z real' r.1
  | [], es, r, real, ids0, l0, hr, hf => by
    simp [fillS] at hf
    subst hf
    exact ⟨[], rfl, by simp, rfl, real, by simp [Instr.fill], by simpa using hr⟩
  | (k, x) :: ps, es, r, real, ids0, l0, hr, hf => by
    simp only [fillS] at hf
    split at hf <;> try cases hf
    rename_i v hx
    split at hf <;> try cases hf
    rename_i cs hcells
    split at hf <;> try cases hf
    rename_i new l u hembs
    split at hf <;> try cases hf
    rename_i hcond
    obtain ⟨hc1, hc2⟩ := hcond
    split at hf <;> simp only [Option.some.injEq, reduceCtorEq] at hf
    rename_i es' l' u' hrec
    subst hf
    obtain ⟨hsz, hvr⟩ := cells_vr hcells (ev_vr hS hx)
    obtain ⟨ids1, e1, r1, hlen, p1⟩ := embs_rep hS.mem hembs (rvs := (a.eval x).cells.toList) (by simpa using hsz) (fun j v' x' hv hx' => hvr j v' x' (by simpa using hv) hx')
    simp only at e1 hlen p1
    have hkz : k * z + z ≤ real.size := by
      rw [hr.1]
      have : (k + 1) * z ≤ es.length * z := Nat.mul_le_mul_right _ hc2
      rw [Nat.add_mul] at this
      omega
    obtain ⟨real1, f1, f2, f3⟩ := fill_one (fun i => some (i * z, z)) real k (a.eval x) (ps.map fun p => (p.1, a.eval p.2)) (off := k * z) (z := z) rfl (by rw [hsz, ← hlen]; exact hc1) hkz
    have hr1 : RowR w (gok m c.B (ids0 ++ ids1) (l0 && l)) z real1 (es.set k new) := by
      refine ⟨by rw [f2, hr.1]; simp, fun i e he => ?_, fun i j e y he hy => ?_⟩
      · by_cases hik : k = i
        · subst hik
          rw [List.getElem?_set_self hc2] at he
          simp only [Option.some.injEq] at he
          subst he
          exact hc1
        · rw [List.getElem?_set_ne hik] at he
          exact hr.2.1 i e he
      · by_cases hik : k = i
        · subst hik
          rw [List.getElem?_set_self hc2] at he
          simp only [Option.some.injEq] at he
          subst he
          have hj := (List.getElem?_eq_some_iff.1 hy).1
          rw [f3, if_pos (by omega), show k * z + j - k * z = j by omega]
          have hjlt : j < (a.eval x).cells.size := by rw [hsz, ← hlen]; exact hj
          have hv0 : (a.eval x).cells[j]? = some (a.eval x).cells[j] := by simp [hjlt]
          exact ⟨_, hv0, gok_mono (fun i hi => List.mem_append_right _ hi) (by simp) (p1 j _ y (by simpa using hv0) hy)⟩
        · rw [List.getElem?_set_ne hik] at he
          obtain ⟨v', hv', hrep⟩ := hr.2.2 i j e y he hy
          have hj := (List.getElem?_eq_some_iff.1 hy).1
          rw [hr.2.1 i e he] at hj
          have hnot : ¬ (k * z ≤ i * z + j ∧ i * z + j < k * z + z) := by
            rintro ⟨h2, h3⟩
            rcases Nat.lt_or_gt_of_ne hik with hlt | hgt
            · have : (k + 1) * z ≤ i * z := Nat.mul_le_mul_right _ hlt
              rw [Nat.add_mul] at this
              omega
            · have : (i + 1) * z ≤ k * z := Nat.mul_le_mul_right _ hgt
              rw [Nat.add_mul] at this
              omega
          rw [f3, if_neg hnot]
          exact ⟨v', hv', gok_mono (fun i hi => List.mem_append_left _ hi) (by simp; intro a _; exact a) hrep⟩
    obtain ⟨ids2, e2, r2, hlen2, real', g1, g2⟩ := fillS_sound hS hs z ps _ _ real1 (ids0 ++ ids1) (l0 && l) hr1 hrec
    simp only at e2 hlen2 g2
    refine ⟨ids1 ++ ids2, by simp [e1, e2], fun id hid => ?_, by simp [hlen2], real', by simp only [List.map_cons]; rw [f1]; exact g1, ?_⟩
    · rcases List.mem_append.1 hid with h | h
      · exact r1 id h
      · exact r2 id h
    · rw [← List.append_assoc, ← Bool.and_assoc]
      exact g2
theorem zeros_row {B0 : Nat → Prop} {z : Nat} {zs : List T} (zc : Array Value) (hz : zc.size = z) (hzs : zs.length = z) (hr : ∀ (j : Nat) (u : Value) (x : T), zc[j]? = some u → zs[j]? = some x → Rep w B0 u x) (n k : Nat) (hk : n ≤ k) (h0 : 0 < z) :
    ∀ (i j : Nat) (e : List T) (x : T), (List.replicate n zs)[i]? = some e → e[j]? = some x → ∃ v, (madeCells zc (k * z))[i * z + j]? = some v ∧ Rep w B0 v x := by
  intro i j e x he hx
  rw [List.getElem?_replicate] at he
  split at he <;> simp only [Option.some.injEq, reduceCtorEq] at he
  rename_i hi
  subst he
  have hj := (List.getElem?_eq_some_iff.1 hx).1
  have hlt : i * z + j < k * z := by
    have : (i + 1) * z ≤ k * z := Nat.mul_le_mul_right _ (by omega)
    rw [Nat.add_mul] at this
    omega
  have hjz : j < zc.size := by omega
  refine ⟨zc[j], ?_, hr j _ x (by simp [hjz]) hx⟩
  unfold madeCells
  rw [Array.getElem?_map, Array.getElem?_range]
  simp only [hlt, if_true, Option.map_some, Option.some.injEq]
  rw [hz, show (i * z + j) % z = j by rw [Nat.mul_comm, Nat.mul_add_mod, Nat.mod_eq_of_lt (by omega)]]
  simp [getElem!_pos, hjz]
end
end Go.Proofs.YtgkmhmhbepfiaaaDoor.Pm
set_option linter.all false
namespace Go.Proofs.YtgkmhmhbepfiaaaDoor.Pm
open Go Go.RowKit
section
variable {P : Program} {w w' : World} {c : Ct} {m m' : Mp} {h h' h1 : H} {ti : Nat → Option TI} {tm : Tm} {a : Act}
theorem one_of_rep {B : Nat → Prop} {v : Value} {x : T} (hr : Rep w B v x) (h1 : x.one) : v.oneCell' = true := by
  cases hr <;> first | rfl | exact h1.elim | assumption
theorem Mem.regrow (hM : Mem c m h w) {id ver z : Nat} {es : List (List T)} {l : Bool} (hid : h id = some (.row ver z es l)) {w' : World} (hg : w.grownBy w' (if 0 < (m.ψ id).2 then some (m.ψ id).1 else none))
    (r : Nat × Nat) (es' : List (List T)) (l' : Bool) (hr : 0 < r.2 → (r.1 = (m.ψ id).1 ∧ 0 < (m.ψ id).2) ∨ (w.heap.size ≤ r.1))
    (hb : Ext m h w { m with ψ := setF m.ψ id r } (setH h id (.row (ver + 1) z es' l')) w' → ¬ (m.st r.1 ∧ 0 < r.2) → (0 < r.2 → c.B ≤ r.1) → BlkOK { m with ψ := setF m.ψ id r } c.B (setH h id (.row (ver + 1) z es' l')) w' id (.row (ver + 1) z es' l')) :
    Ext m h w { m with ψ := setF m.ψ id r } (setH h id (.row (ver + 1) z es' l')) w' ∧ Mem c { m with ψ := setF m.ψ id r } (setH h id (.row (ver + 1) z es' l')) w' := by
  have hown : 0 < (m.ψ id).2 → place m h id = some (m.ψ id).1 := fun h0 => by simp [place, hid, placeB, h0]
  have hrow : ∀ g, (if 0 < (m.ψ id).2 then some (m.ψ id).1 else none) = some g → place m h id = some g := fun g e => by
    split at e
    · rename_i h0; simp only [Option.some.injEq] at e; subst e; exact hown h0
    · cases e
  have hsame : ∀ b, b < w.heap.size → place m h id ≠ some b → w'.heap[b]? = w.heap[b]? := fun b hb hne => hg.block b hb (fun e => hne (hrow b e.symm))
  have he : Ext m h w { m with ψ := setF m.ψ id r } (setH h id (.row (ver + 1) z es' l')) w' := by
    refine ⟨fun i hi => ?_, fun _ _ => rfl, fun i v' z0 es0 l0 hi hh => ?_, fun i v z0 es0 l0 hi hv hrr => ?_, fun _ h => h, fun b hs => ?_⟩
    · by_cases e : i = id <;> simp [setH, e, hi]
    · by_cases e : i = id
      · subst e
        simp [setH] at hh
        obtain ⟨rfl, _⟩ := hh
        exact ⟨ver, z, es, l, hid, by omega⟩
      · exact ⟨v', z0, es0, l0, by simpa [setH, e] using hh, Nat.le_refl _⟩
    · by_cases e : i = id
      · subst e
        have hle := hv _ _ _ _ hid
        exfalso
        have : rowOf (setH h i (.row (ver + 1) z es' l')) i v = none := by simp [rowOf, setH]; omega
        rw [this] at hrr
        cases hrr
      · exact ⟨⟨es0, l0, by simpa [rowOf, setH, e] using hrr⟩, by simp [setF, e]⟩
    · exact hsame b (hM.stlt b hs) (fun e => (hM.place_lt e).2.2 hs)
  have hrst : ¬ (m.st r.1 ∧ 0 < r.2) := by
    rintro ⟨h1, h2⟩
    rcases hr h2 with ⟨h3, h4⟩ | h3
    · rw [h3] at h1; exact (hM.place_lt (hown h4)).2.2 h1
    · exact Nat.lt_irrefl _ (Nat.lt_of_lt_of_le (hM.stlt _ h1) h3)
  have hrB : 0 < r.2 → c.B ≤ r.1 := fun h2 => by
    rcases hr h2 with ⟨h3, h4⟩ | h3
    · rw [h3]; exact (hM.place_lt (hown h4)).2.1
    · exact Nat.le_trans hM.bsize h3
  have hpl : ∀ i, i ≠ id → place { m with ψ := setF m.ψ id r } (setH h id (.row (ver + 1) z es' l')) i = place m h i := fun i hi => by
    unfold place
    simp only [setH, if_neg hi]
    cases h i with
    | none => rfl
    | some b' => cases b' <;> simp [placeB, setF, hi]
  have hpi : ∀ g, place { m with ψ := setF m.ψ id r } (setH h id (.row (ver + 1) z es' l')) id = some g → 0 < r.2 ∧ g = r.1 := fun g e => by
    simp [place, setH, placeB, setF] at e
    exact ⟨e.1, e.2.symm⟩
  have hdis : ∀ i, i ≠ id → ∀ g, place m h i = some g → ¬ (0 < r.2 ∧ g = r.1) := fun i hi g hp ⟨h2, e⟩ => by
    subst e
    rcases hr h2 with ⟨h3, h4⟩ | h3
    · rw [h3] at hp; exact hi (hM.sep i id _ hp (hown h4))
    · exact Nat.lt_irrefl _ (Nat.lt_of_lt_of_le (hM.place_lt hp).1 h3)
  refine ⟨he, ⟨?_, he.kept hM.kept, fun i b hi => ?_, fun i j g hi hj => ?_, fun b hs => Nat.lt_of_lt_of_le (hM.stlt b hs) hg.size, hM.stin, hM.softE he, fun b h => ⟨Nat.lt_of_lt_of_le (hM.res b h).1 hg.size, (hM.res b h).2.1, fun i hi => ?_, (hsame b (hM.res b h).1 ((hM.res b h).2.2.1 _)).trans (hM.res b h).2.2.2⟩⟩⟩
  · refine hM.below.trans ⟨hg.os, hg.tape, hg.output, hg.size, fun b hb => hsame b (Nat.lt_of_lt_of_le hb hM.bsize) (fun e => ?_)⟩
    exact Nat.lt_irrefl _ (Nat.lt_of_lt_of_le hb (hM.place_lt e).2.1)
  · by_cases e : i = id
    · subst e
      simp [setH] at hi
      subst hi
      exact hb he hrst hrB
    · have hi' : h i = some b := by simpa [setH, e] using hi
      refine (hM.blk i b hi').keep he rfl (by simp [setF, e]) fun g hgp => ?_
      have hpg : place m h i = some g := by unfold place; rw [hi']; exact hgp
      obtain ⟨h2, h3, h4⟩ := hM.place_lt hpg
      exact ⟨h4, hsame g h2 (fun e' => e (hM.sep i id g hpg e'))⟩
  · by_cases e : i = id <;> by_cases e' : j = id
    · rw [e, e']
    · subst e; rw [hpl j e'] at hj; exact (hdis j e' g hj (hpi g hi)).elim
    · subst e'; rw [hpl i e] at hi; exact (hdis i e g hi (hpi g hj)).elim
    · rw [hpl i e] at hi; rw [hpl j e'] at hj; exact hM.sep i j g hi hj
  · by_cases e : i = id
    · subst e
      obtain ⟨q1, q2⟩ := hpi b hi
      rcases hr q1 with ⟨h3, h4⟩ | h3
      · exact (hM.res b h).2.2.1 i (by rw [q2, h3]; exact hown h4)
      · rw [q2] at h; exact Nat.lt_irrefl _ (Nat.lt_of_lt_of_le (hM.res _ h).1 h3)
    · rw [hpl i e] at hi; exact (hM.res b h).2.2.1 i hi
theorem run_append_room' {t ty e : TypeId} {i : TypeInfo} (ht : P.underlying t = some (.slice e)) (hi : P.info? e = some i)
    (g sLen sCap : Nat) (cur : Array Value) (te : TypeId) (hg : w.heap[g]? = some (.cells cur te (0, 0)))
    (x : Addr) (n k : Nat) (news : List Value) (hl : news.length = n * i.size) (hnews : ∀ (j : Nat) (u : Value), news[j]? = some u → w.cell? (x.add j) = some u) (h1 : ∀ u ∈ news, u.oneCell' = true)
    (hroom : sLen + n ≤ sCap) (hfit : sLen * i.size + news.length ≤ cur.size) :
    (Builtin.append_ #[t, t] ty #[.slice (some ⟨g, 0, none⟩) sLen sCap, .slice (some x) n k]).run P w =
      .ok (.slice (some ⟨g, 0, none⟩) (sLen + n) sCap) (w.setRow g (cur.toList.take (sLen * i.size) ++ news ++ cur.toList.drop (sLen * i.size + news.length)).toArray) := by
  have hf := run_firstCells_some (P := P) w i.size n x n k news hl hnews
  have hst := run_storeCells_at P g (sLen * i.size) te news 0 cur w hg (by simpa using hfit) h1
  simp only [Nat.add_zero] at hst
  simp [Builtin.append_, run_underlying ht, sizeOf, typeInfo, hi, Builtin.lenOf, hroom, hf, Addr.add_lit, hst]
theorem run_append_nothing {t ty e : TypeId} {i : TypeInfo} (ht : P.underlying t = some (.slice e)) (hi : P.info? e = some i) (A A' : Option Addr) (sLen sCap k : Nat) (hc : sLen ≤ sCap) :
    (Builtin.append_ #[t, t] ty #[.slice A sLen sCap, .slice A' 0 k]).run P w = .ok (.slice A sLen sCap) w := by
  cases A <;> cases A' <;> simp [Builtin.append_, run_underlying ht, sizeOf, typeInfo, hi, Builtin.lenOf, hc, Builtin.firstCells, loadCells, loadCellsFrom, storeCells]
end
end Go.Proofs.YtgkmhmhbepfiaaaDoor.Pm
set_option linter.all false
namespace Go.Proofs.YtgkmhmhbepfiaaaDoor.Pm
open Go Go.RowKit
section
variable {P : Program} {w w' : World} {c : Ct} {m m' : Mp} {h h' h1 : H} {ti : Nat → Option TI} {tm : Tm} {a : Act}
theorem rowOf_sub (hs : Sub h1 h) {id ver : Nat} {r : Nat × List (List T) × Bool} (hr : rowOf h1 id ver = some r) : rowOf h id ver = some r := by
  obtain ⟨z, es, l⟩ := r
  exact (hs.row hr).2
theorem varOf_sub (hs : Sub h1 h) {id : Nat} {cs : List AV} (hr : varOf h1 id = some cs) : varOf h id = some cs := by
  have := hs.var hr
  simp [varOf, this]
theorem elems_sub (hs : Sub h1 h) {u : AV} {p : List (List T) × Bool} (hp : elems h1 u = some p) : elems h u = some p := by
  unfold elems at hp ⊢
  split at hp
  · exact hp
  · exact hp
  · exact hp
  · exact hp
  · split at hp
    · rename_i hr; simp only [rowOf_sub hs hr]; exact hp
    · cases hp
  · split at hp
    · rename_i hr; simp only [varOf_sub hs hr]; exact hp
    · cases hp
  · cases hp
theorem emb_sub (hs : Sub h1 h) {u : AV} {p : T × Bool × List (Nat × Blk)} (hp : emb h1 u = some p) : emb h u = some p := by
  unfold emb at hp ⊢
  split at hp
  · exact hp
  · exact hp
  · exact hp
  · split at hp
    · rename_i hr; simp only [rowOf_sub hs hr]; exact hp
    · cases hp
  · cases hp
theorem embs_sub (hs : Sub h1 h) : ∀ {us : List AV} {p : List T × Bool × List (Nat × Blk)}, embs h1 us = some p → embs h us = some p
  | [], p, hp => hp
  | v :: vs, p, hp => by
    simp only [embs] at hp ⊢
    split at hp <;> try cases hp
    rename_i e1 e2
    simp only [emb_sub hs e1, embs_sub hs e2]
theorem fillS_sub (hs : Sub h1 h) {z : Nat} : ∀ {ps : List (Nat × Operand)} {es : List (List T)} {r : List (List T) × Bool × List (Nat × Blk)}, fillS h1 tm z ps es = some r → fillS h tm z ps es = some r
  | [], es, r, hr => hr
  | (k, x) :: ps, es, r, hr => by
    simp only [fillS] at hr ⊢
    split at hr <;> try cases hr
    rename_i hx
    split at hr <;> try cases hr
    rename_i hc
    split at hr <;> try cases hr
    rename_i he
    simp only [embs_sub hs he]
    split at hr <;> try cases hr
    rename_i hcond
    rw [if_pos hcond]
    split at hr <;> try cases hr
    rename_i hrec
    simp only [fillS_sub hs hrec]
theorem news_one {xs : List (List T)} {z : Nat} (hok : okEs z xs) (h0 : 0 < z) {B : Nat → Prop} {news : List Value} (hl : news.length = xs.length * z)
    (hr : ∀ (i j : Nat) (e : List T) (x : T), xs[i]? = some e → e[j]? = some x → ∃ v, news[i * z + j]? = some v ∧ Rep w B v x) : ∀ u ∈ news, u.oneCell' = true := by
  intro u hu
  obtain ⟨k, hk⟩ := List.getElem?_of_mem hu
  have hlt := (List.getElem?_eq_some_iff.1 hk).1
  have hi : k / z < xs.length := Nat.div_lt_of_lt_mul (by rw [Nat.mul_comm, ← hl]; exact hlt)
  obtain ⟨e, he⟩ := list_get hi
  obtain ⟨hel, hone⟩ := hok e (List.mem_of_getElem? he)
  obtain ⟨x, hx⟩ := list_get (l := e) (j := k % z) (by rw [hel]; exact Nat.mod_lt _ h0)
  obtain ⟨v, hv, hrep⟩ := hr _ _ _ _ he hx
  rw [Nat.mul_comm, Nat.div_add_mod, hk] at hv
  simp only [Option.some.injEq] at hv
  subst hv
  exact one_of_rep hrep (hone x (List.mem_of_getElem? hx))
theorem okEs_len {xs : List (List T)} {z : Nat} (hok : okEs z xs) : ∀ e ∈ xs, e.length = z := fun e he => (hok e he).1
theorem below_drew (w : World) : Below w.heap.size w w.drew := (Below.refl _ w).drew
theorem grown_row (hM : Mem c m h w) {n : Nat} (hn : h n = none) {ty : TypeId} {z k : Nat} {es : List (List T)} {l : Bool} {cells : List Value} (zc : Array Value) (hzc : zc.size = z) (hcl : cells.length = es.length * z)
    (hk : es.length ≤ k) (hroom : es.length ≤ room) (hz : ∀ e ∈ es, e.length = z)
    (hr : ∀ (i j : Nat) (e : List T) (x : T), es[i]? = some e → e[j]? = some x → ∃ v, cells[i * z + j]? = some v ∧ Rep w (m.ok c.B l) v x) :
    ∃ m', Ext m h w m' (setH h n (.row 0 z es l)) (w.drew.alloc (.cells (cells.toArray ++ Builtin.zeroCells zc (k - es.length)) ty)) ∧
      Mem c m' (setH h n (.row 0 z es l)) (w.drew.alloc (.cells (cells.toArray ++ Builtin.zeroCells zc (k - es.length)) ty)) ∧ m'.ψ n = (w.heap.size, k) := by
  obtain ⟨e1, M1⟩ := hM.grow (below_drew w)
  obtain ⟨m', e2, M2, hψ⟩ := M1.newRow hn (cells.toArray ++ Builtin.zeroCells zc (k - es.length)) ty z k es l hk hroom (fun i e he => hz e (List.mem_of_getElem? he)) (by
    rw [Array.size_append, List.size_toArray, size_zeroCells, hcl, hzc, ← Nat.add_mul]
    exact Nat.mul_le_mul_right _ (by omega)) (fun i j e x he hx => by
    obtain ⟨v, hv, hrep⟩ := hr i j e x he hx
    refine ⟨v, ?_, hrep.mono (fun _ hb => hb) (fun _ _ => rfl)⟩
    rw [Array.getElem?_append_left (by simpa using (List.getElem?_eq_some_iff.1 hv).1)]
    simpa using hv)
  exact ⟨m', e1.trans e2, M2, hψ⟩
theorem bytes_bound {k nb : Nat} (h0 : 0 < nb) (hb : k * nb ≤ room) : k ≤ room := Nat.le_trans (Nat.le_mul_of_pos_right _ h0) hb
theorem zeroCells_made (zc : Array Value) (n : Nat) : Builtin.zeroCells zc n = madeCells zc (n * zc.size) := rfl
theorem flats_get : ∀ {xs : List (List T)} {i : Nat} {e : List T}, flats xs = true → xs[i]? = some e → ∀ x ∈ e, x.flat = true
  | [], _, _, _, h => by simp at h
  | y :: ys, i, e, hf, h => by
    simp only [flats, Bool.and_eq_true, List.all_eq_true] at hf
    cases i with
    | zero => simp at h; subst h; exact hf.1
    | succ i => exact flats_get hf.2 (by simpa using h)
theorem flag_rep {xs : List (List T)} {lx lf : Bool} (hlf : flagOf xs lx = lf) {f : Nat → Nat → Option Value} {m : Mp} {B : Nat}
    (h : ∀ (i j : Nat) (e : List T) (x : T), xs[i]? = some e → e[j]? = some x → ∃ v, f i j = some v ∧ Rep w (m.ok B lx) v x) :
    ∀ (i j : Nat) (e : List T) (x : T), xs[i]? = some e → e[j]? = some x → ∃ v, f i j = some v ∧ Rep w (m.ok B lf) v x := by
  intro i j e x he hx
  obtain ⟨v, h1, h2⟩ := h i j e x he hx
  refine ⟨v, h1, ?_⟩
  subst hlf
  cases lx with
  | true => exact h2
  | false =>
    cases hf : flats xs with
    | false => simpa [flagOf, hf] using h2
    | true => exact flat_rep (flats_get hf he x (List.mem_of_getElem? hx)) h2
theorem onto_row (hM : Mem c m h w) {S : Sem Value} {z : Nat} {zc : Array Value} {et : TypeId} (h0 : 0 < z) (hzs : zc.size = z) {id ver len : Nat} {es xs : List (List T)} {l lf : Bool}
    (hrow' : rowOf h id ver = some (z, es, l)) (hlen : len ≤ es.length) (hxz : ∀ e ∈ xs, e.length = z) (hxr : len + xs.length ≤ room) {news : List Value} (hnl : news.length = xs.length * z)
    (hnr : ∀ (i j : Nat) (e : List T) (x : T), xs[i]? = some e → e[j]? = some x → ∃ v, news[i * z + j]? = some v ∧ Rep w (m.ok c.B lf) v x) {rv : Value} (hv : VR m c.B h w rv (.row id ver 0 len))
    (R0 : ∀ (A : Option Addr) (cap : Nat), rv = .slice A len cap → len ≤ cap → xs = [] → S.run P w = .ok (.slice A len cap) w)
    (R1 : ∀ (g cap : Nat) (rcs : Array Value) (tt : TypeId), rv = .slice (some ⟨g, 0, none⟩) len cap → w.heap[g]? = some (.cells rcs tt (0, 0)) → 0 < xs.length → len + xs.length ≤ cap → len * z + news.length ≤ rcs.size →
      S.run P w = .ok (.slice (some ⟨g, 0, none⟩) (len + xs.length) cap) (w.setRow g (rcs.toList.take (len * z) ++ news ++ rcs.toList.drop (len * z + news.length)).toArray))
    (R2 : ∀ (A : Option Addr) (cap : Nat) (olds : List Value), rv = .slice A len cap → olds.length = len * z → (∀ b, A = some b → ∀ (j : Nat) (vv : Value), olds[j]? = some vv → w.cell? (b.add j) = some vv) → (A = none → cap = 0) → 0 < xs.length → cap < len + xs.length →
      S.run P w = .ok (.slice (some ⟨w.heap.size, 0, none⟩) (len + xs.length) (grownCap w (len + xs.length) cap et)) (w.drew.alloc (.cells ((olds ++ news).toArray ++ Builtin.zeroCells zc (grownCap w (len + xs.length) cap et - (len + xs.length))) et))) :
    ∃ r w' m', S.run P w = .ok r w' ∧ Ext m h w m' (uH h [(id, .row (ver + 1) z (es.take len ++ xs) (l && lf))]) w' ∧ Mem c m' (uH h [(id, .row (ver + 1) z (es.take len ++ xs) (l && lf))]) w' ∧
      VR m' c.B (uH h [(id, .row (ver + 1) z (es.take len ++ xs) (l && lf))]) w' r (.row id (ver + 1) 0 (len + xs.length)) := by
  have hid := rowOf_some hrow'
  obtain ⟨b1, b2, b3, b4⟩ := hM.blk _ _ hid
  have hnew : (es.take len ++ xs).length = len + xs.length := by simp; omega
  have hzz : ∀ e ∈ es.take len ++ xs, e.length = z := fun e he => by
    rcases List.mem_append.1 he with he | he
    · obtain ⟨q, hq⟩ := List.getElem?_of_mem (List.mem_of_mem_take he)
      exact b3 q e hq
    · exact hxz e he
  cases hv with
  | row _ _ _ _ cap A hid' hver hcap hvr =>
    obtain ⟨v1, v2⟩ := hvr _ _ _ hrow'
    have hψ0 : 0 < cap → 0 < (m.ψ id).2 := fun h => by omega
    -- the elements that were there, as they are shown
    have old : ∀ (q : Nat) (e : List T), (es.take len ++ xs)[q]? = some e → q < len → es[q]? = some e := fun q e he hq => by
      rw [List.getElem?_append_left (by simp; omega), List.getElem?_take_of_lt hq] at he
      exact he
    have fresh : ∀ (q : Nat) (e : List T), (es.take len ++ xs)[q]? = some e → ¬ q < len → xs[q - len]? = some e := fun q e he hq => by
      rw [List.getElem?_append_right (by simp; omega)] at he
      simp only [List.length_take] at he
      rwa [Nat.min_eq_left hlen] at he
    rcases Nat.eq_zero_or_pos xs.length with hz | hpos
    · -- nothing is appended
      have hnil : xs = [] := List.eq_nil_of_length_eq_zero hz
      subst hnil
      have G := hM.regrow hid (w' := w) ⟨rfl, rfl, rfl, Nat.le_refl _, fun _ _ _ => rfl⟩ (m.ψ id) (es.take len ++ []) (l && lf) (fun h => .inl ⟨rfl, h⟩) (fun he _ _ => by
        refine ⟨by simp [setF]; omega, by simp; omega, fun q e he' => hzz e (List.mem_of_getElem? he'), fun hψ => ?_⟩
        simp only [setF, if_true] at hψ ⊢
        obtain ⟨g1, g2, rcs, tt, g3, g4, g5⟩ := b4 hψ
        refine ⟨g1, g2, rcs, tt, g3, g4, fun q j e y hq hj => ?_⟩
        have hql : q < len := by have := (List.getElem?_eq_some_iff.1 hq).1; simp at this; omega
        obtain ⟨vv, hv1, hv2⟩ := g5 q j e y (old q e hq hql) hj
        exact ⟨vv, hv1, hv2.mono (fun b hb => ⟨hb.1, fun e => hb.2 (by simp at e; exact e.1)⟩) (fun _ _ => rfl)⟩)
      refine ⟨_, w, _, (R0 A cap rfl hcap rfl), G.1, G.2, ?_⟩
      refine .row id (ver + 1) 0 (len + 0) cap A (by simp [uH]) (fun v' z es l e => by simp [uH] at e; omega) hcap fun z' es' l' hr => ?_
      simp [uH, rowOf] at hr
      obtain ⟨rfl, rfl, rfl⟩ := hr
      simp only [setF, if_true]
      exact ⟨v1, v2⟩
    · have hlt : ((len + xs.length : Nat) : Int) ≤ 9223372036854775807 := by unfold room at hxr; omega
      by_cases hfit : len + xs.length ≤ cap
      · -- in place
        obtain ⟨g1, g2, rcs, tt, g3, g4, g5⟩ := b4 (hψ0 (by omega))
        have hA : A = some ⟨(m.ψ id).1, 0, none⟩ := by rw [v2 (by omega), Nat.zero_mul]; rfl
        subst hA
        have hcapz : (len + xs.length) * z ≤ rcs.size := Nat.le_trans (Nat.mul_le_mul_right _ (by omega)) g4
        rw [Nat.add_mul] at hcapz
        have hrun := R1 (m.ψ id).1 cap rcs tt rfl g3 hpos hfit (by rw [hnl]; exact hcapz)
        have hg : w.grownBy (w.setRow (m.ψ id).1 (rcs.toList.take (len * z) ++ news ++ rcs.toList.drop (len * z + news.length)).toArray) (if 0 < (m.ψ id).2 then some (m.ψ id).1 else none) :=
          ⟨rfl, rfl, rfl, by simp, fun b hb hne => setRow_other w _ _ _ (fun e => hne (by rw [if_pos (by omega), e]))⟩
        have G := hM.regrow hid hg (m.ψ id) (es.take len ++ xs) (l && lf) (fun h => .inl ⟨rfl, h⟩) (fun he _ _ => by
          refine ⟨by simp [setF]; omega, by rw [hnew]; exact hxr, fun q e he' => hzz e (List.mem_of_getElem? he'), fun hψ => ?_⟩
          simp only [setF, if_true] at hψ ⊢
          refine ⟨g1, g2, _, tt, setRow_heap w _ _ _ _ _ g3, by simp; omega, fun q j e y hq hj => ?_⟩
          have hjz : j < z := by have := (List.getElem?_eq_some_iff.1 hj).1; rw [hzz e (List.mem_of_getElem? hq)] at this; exact this
          by_cases hql : q < len
          · obtain ⟨vv, hv1, hv2⟩ := g5 q j e y (old q e hq hql) hj
            have hqj : q * z + j < len * z := by
              have : (q + 1) * z ≤ len * z := Nat.mul_le_mul_right _ hql
              rw [Nat.add_mul] at this
              omega
            refine ⟨vv, ?_, hv2.mono (fun b hb => ⟨hb.1, fun e => hb.2 (by simp at e; exact e.1)⟩) (fun b hb => setRow_other w _ _ _ (fun e => g2 (by rw [← e]; exact hb.1)))⟩
            simp only [List.getElem?_toArray]
            rw [List.append_assoc, List.getElem?_append_left (by simp; omega), List.getElem?_take_of_lt hqj]
            simpa using hv1
          · obtain ⟨vv, hv1, hv2⟩ := hnr (q - len) j e y (fresh q e hq hql) hj
            have hqx := (List.getElem?_eq_some_iff.1 (fresh q e hq hql)).1
            have hidx : q * z + j = len * z + ((q - len) * z + j) := by
              have : q = len + (q - len) := by omega
              conv => lhs; rw [this, Nat.add_mul]
              omega
            have hqj : (q - len) * z + j < news.length := by
              rw [hnl]
              have : (q - len + 1) * z ≤ xs.length * z := Nat.mul_le_mul_right _ (by omega)
              rw [Nat.add_mul] at this
              omega
            have htl : (rcs.toList.take (len * z)).length = len * z := by simp; omega
            refine ⟨vv, ?_, hv2.mono (fun b hb => ⟨hb.1, fun e => hb.2 (by simp at e; exact e.2)⟩) (fun b hb => setRow_other w _ _ _ (fun e => g2 (by rw [← e]; exact hb.1)))⟩
            simp only [List.getElem?_toArray]
            rw [hidx, List.getElem?_append_left (by rw [List.length_append, htl]; omega), List.getElem?_append_right (by omega), htl, Nat.add_sub_cancel_left]
            exact hv1)
        refine ⟨_, _, _, hrun, G.1, G.2, ?_⟩
        refine .row id (ver + 1) 0 (len + xs.length) cap _ (by simp [uH]) (fun v' z es l e => by simp [uH] at e; omega) hfit fun z' es' l' hr => ?_
        simp [uH, rowOf] at hr
        obtain ⟨rfl, rfl, rfl⟩ := hr
        simp only [setF, if_true]
        exact ⟨v1, v2⟩
      · -- a new array
        obtain ⟨olds, hol, holds, hor⟩ : ∃ olds : List Value, olds.length = len * z ∧ (∀ b, A = some b → ∀ (j : Nat) (vv : Value), olds[j]? = some vv → w.cell? (b.add j) = some vv) ∧
            ∀ (q j : Nat) (e : List T) (y : T), q < len → es[q]? = some e → e[j]? = some y → ∃ vv, olds[q * z + j]? = some vv ∧ Rep w (m.ok c.B l) vv y := by
          by_cases hl0 : 0 < len
          · obtain ⟨g1, g2, rcs, tt, g3, g4, g5⟩ := b4 (by omega)
            have hle : len * z ≤ rcs.size := Nat.le_trans (Nat.mul_le_mul_right _ (by omega)) g4
            refine ⟨rcs.toList.take (len * z), by simp; omega, fun b hb j vv hj => ?_, fun q j e y hq he hj => ?_⟩
            · rw [v2 (by omega), Nat.zero_mul] at hb
              simp only [Option.some.injEq] at hb
              subst hb
              have hjl := (List.getElem?_eq_some_iff.1 hj).1
              simp at hjl
              rw [List.getElem?_take_of_lt (by omega)] at hj
              rw [add_lit, add_lit, cell_lit g3]
              simpa using hj
            · obtain ⟨vv, hv1, hv2⟩ := g5 q j e y he hj
              have hjz : j < z := by have := (List.getElem?_eq_some_iff.1 hj).1; rw [b3 q e he] at this; exact this
              have hqj : q * z + j < len * z := by
                have : (q + 1) * z ≤ len * z := Nat.mul_le_mul_right _ hq
                rw [Nat.add_mul] at this
                omega
              exact ⟨vv, by rw [List.getElem?_take_of_lt hqj]; simpa using hv1, hv2⟩
          · obtain rfl : len = 0 := by omega
            exact ⟨[], by simp, by simp, fun q j e y hq => by omega⟩
        have hcells : (olds ++ news).length = (es.take len ++ xs).length * z := by rw [List.length_append, hol, hnl, hnew, Nat.add_mul]
        have hge := grownCap_ge w (len + xs.length) cap et
        have hgr : w.grownBy (w.drew.alloc (.cells ((olds ++ news).toArray ++ Builtin.zeroCells zc (grownCap w (len + xs.length) cap et - (len + xs.length))) et)) (if 0 < (m.ψ id).2 then some (m.ψ id).1 else none) :=
          ⟨rfl, rfl, rfl, by simp, fun b hb _ => heap_alloc_old w.drew _ (r := b) hb⟩
        have G := hM.regrow hid hgr (w.heap.size, grownCap w (len + xs.length) cap et) (es.take len ++ xs) (l && lf) (fun h => .inr (Nat.le_refl _)) (fun he hst hB => by
          refine ⟨by simp only [setF, if_true, hnew]; exact hge, by rw [hnew]; exact hxr, fun q e he' => hzz e (List.mem_of_getElem? he'), fun hψ => ?_⟩
          simp only [setF, if_true] at hψ ⊢
          refine ⟨hM.bsize, fun hs => Nat.lt_irrefl _ (hM.stlt _ hs), _, et, heap_alloc_new w.drew _, ?_, fun q j e y hq hj => ?_⟩
          · rw [Array.size_append, List.size_toArray, size_zeroCells, hcells, hnew, hzs, ← Nat.add_mul]
            exact Nat.mul_le_mul_right _ (by omega)
          · have hjz : j < z := by have := (List.getElem?_eq_some_iff.1 hj).1; rw [hzz e (List.mem_of_getElem? hq)] at this; exact this
            have hmono : ∀ {vv : Value} {lb : Bool}, ((l && lf) = true → lb = true) → Rep w (m.ok c.B lb) vv y →
                Rep (w.drew.alloc (.cells ((olds ++ news).toArray ++ Builtin.zeroCells zc (grownCap w (len + xs.length) cap et - (len + xs.length))) et)) (Mp.ok { m with ψ := setF m.ψ id (w.heap.size, grownCap w (len + xs.length) cap et) } c.B (l && lf)) vv y :=
              fun hlb hr => hr.mono (fun b hb => ⟨hb.1, fun e => hb.2 (hlb e)⟩) (fun b hb => heap_alloc_old w.drew _ (r := b) (hM.stlt b hb.1))
            by_cases hql : q < len
            · obtain ⟨vv, hv1, hv2⟩ := hor q j e y hql (old q e hq hql) hj
              refine ⟨vv, ?_, hmono (by simp; intro a _; exact a) hv2⟩
              have hlt' := (List.getElem?_eq_some_iff.1 hv1).1
              rw [Array.getElem?_append_left (by simp; omega)]
              simp only [List.getElem?_toArray]
              rw [List.getElem?_append_left hlt']
              exact hv1
            · obtain ⟨vv, hv1, hv2⟩ := hnr (q - len) j e y (fresh q e hq hql) hj
              have hidx : q * z + j = olds.length + ((q - len) * z + j) := by
                rw [hol]
                have : q = len + (q - len) := by omega
                conv => lhs; rw [this, Nat.add_mul]
                omega
              have hlt' := (List.getElem?_eq_some_iff.1 hv1).1
              refine ⟨vv, ?_, hmono (by simp) hv2⟩
              rw [hidx, Array.getElem?_append_left (by simp; omega)]
              simp only [List.getElem?_toArray]
              rw [List.getElem?_append_right (by omega), Nat.add_sub_cancel_left]
              exact hv1)
        refine ⟨.slice (some ⟨w.heap.size, 0, none⟩) (len + xs.length) (grownCap w (len + xs.length) cap et), _, _, ?_, G.1, G.2, ?_⟩
        · refine R2 A cap olds rfl hol holds (fun hA => ?_) hpos (by omega)
          subst hA
          have hcap0 : cap = 0 := by
            rcases Nat.eq_zero_or_pos cap with h | h
            · exact h
            · have := v2 h; cases this
          omega
        · refine .row id (ver + 1) 0 (len + xs.length) _ _ (by simp [uH]) (fun v' z es l e => by simp [uH] at e; omega) hge fun z' es' l' hr => ?_
          simp only [setF, if_true]
          exact ⟨by omega, fun _ => by rw [add_lit]; simp⟩
theorem run_zeros_nothing {t tn ty e : TypeId} {i : TypeInfo} {kn : IntKind} (ht : P.underlying t = some (.slice e)) (htn : P.underlying tn = some (.int kn)) (hi : P.info? e = some i) (kq : IntKind) (A : Option Addr) (sLen sCap : Nat) (hc : sLen ≤ sCap) :
    (Builtin.append_ #[t, tn] ty #[.slice A sLen sCap, .int kq ((0 : Nat) : Int)]).run P w = .ok (.slice A sLen sCap) w := by
  have hw : IntKind.i64.wrap 0 = 0 := rfl
  cases A <;> simp [Builtin.append_, run_underlying ht, run_underlying htn, sizeOf, typeInfo, hi, asInt, asIntOf, hw, hc, storeCells]
theorem run_zeros_room {t tn ty e : TypeId} {i : TypeInfo} {z : Value} {kn : IntKind} (ht : P.underlying t = some (.slice e)) (htn : P.underlying tn = some (.int kn)) (hi : P.info? e = some i) (hz : i.zero = some z) (kq : IntKind)
    (g sLen sCap : Nat) (cur : Array Value) (te : TypeId) (hg : w.heap[g]? = some (.cells cur te (0, 0))) (k : Nat) (h0 : 0 < k) (hs : 0 < i.size) (h48 : k * i.bytes ≤ 281474976710656) (h1 : ∀ u ∈ (Builtin.zeroCells z.cells k).toList, u.oneCell' = true)
    (hroom : sLen + k ≤ sCap) (hfit : sLen * i.size + (Builtin.zeroCells z.cells k).toList.length ≤ cur.size) (h63 : (k : Int) ≤ 9223372036854775807) :
    (Builtin.append_ #[t, tn] ty #[.slice (some ⟨g, 0, none⟩) sLen sCap, .int kq (k : Int)]).run P w =
      .ok (.slice (some ⟨g, 0, none⟩) (sLen + k) sCap) (w.setRow g (cur.toList.take (sLen * i.size) ++ (Builtin.zeroCells z.cells k).toList ++ cur.toList.drop (sLen * i.size + (Builtin.zeroCells z.cells k).toList.length)).toArray) := by
  have hk : k ≠ 0 := by omega
  have hw : IntKind.i64.wrap (k : Int) = k := by rw [IntKind.wrap_i64]; omega
  have h48i : ¬ (281474976710656 < (k : Int) * (i.bytes : Int)) := by
    rw [← Int.natCast_mul]
    omega
  have hneg : ¬ ((k : Int) < 0) := by omega
  have hns : ¬ (k * i.size = 0) := Nat.mul_ne_zero hk (by omega)
  have hst := run_storeCells_at P g (sLen * i.size) te (Builtin.zeroCells z.cells k).toList 0 cur w hg (by simpa using hfit) h1
  simp only [Nat.add_zero] at hst
  simp [Builtin.append_, run_underlying ht, run_underlying htn, sizeOf, typeInfo, zeroValue, hi, hz, asInt, asIntOf, hw, hneg, hns, h48i, hroom, Addr.add_lit] at hst ⊢
  simp [hst]
theorem qGrow_sound (hP : TIok P ti) (hM : Mem c m h w) (hs : Sub h1 h) {n : Nat} (hn : h n = none) {t t' : Nat} {v u : AV} {rv ru : Value} (hv : VR m c.B h w rv v) (hu : VR m c.B h w ru u)
    {p : Prop} {x : AV} {us : List (Nat × Blk)} (hq : qGrow ti h1 n t t' v u = some (p, x, us)) (hp : p) (ty : TypeId) :
    ∃ r w' m', (Builtin.append_ #[t, t'] ty #[rv, ru]).run P w = .ok r w' ∧ Ext m h w m' (uH h us) w' ∧ Mem c m' (uH h us) w' ∧ VR m' c.B (uH h us) w' r x := by
  unfold qGrow at hq
  split at hq <;> try cases hq
  rename_i i k' s1 s2 s3 k p' l0 hi hti
  obtain ⟨et, hut, hT⟩ := elemOfS_some hP hi
  obtain ⟨d', hud, hdo⟩ := (hP.ok _ _ hti).und
  cases d' <;> first | exact (Bool.false_ne_true hdo).elim | skip
  obtain ⟨inf, zv, hinf, hzv, hsz, hnb, hzs, _, hzl, hzr⟩ := zero_cells (m := m) (c := c) (h := h) (w := w) hT
  cases hu with
  | t _ _ _ hrep =>
  cases hrep
  split at hq
  · simp only [Option.some.injEq, Prod.mk.injEq] at hq
    obtain ⟨rfl, rfl, rfl⟩ := hq
    obtain ⟨h0, hp0, hb, hr⟩ := hp
    cases hv
    obtain ⟨q, rfl⟩ : ∃ q : Nat, p' = q := ⟨p'.toNat, by omega⟩
    have hq0 : 0 < q := by omega
    have hge := grownCap_ge w q 0 et
    have hrun := Lib.run_append_grow_zeros (P := P) w t t' ty et inf zv k _ hut hud hinf hzv none 0 0 [] (run_firstCells_none _ _ _ _ _) q hq0 (by rw [hsz]; exact h0) (by omega) (by unfold room at hr; omega)
      (by rw [hnb]; unfold room at hb; omega) (growslice_fits (by omega) (by rw [hnb, Nat.zero_add]; unfold room at hb; omega))
    obtain ⟨m', e2, M2, hψ⟩ := grown_row hM hn (ty := et) (k := grownCap w q 0 et) (es := List.replicate q i.z) (l := true) (cells := (Builtin.zeroCells zv.cells q).toList) zv.cells hzs (by simp [size_zeroCells, hzs]) (by simpa using hge) (by unfold room at hr ⊢; simp; omega)
      (fun e he => by rw [(List.mem_replicate.1 he).2]; exact hzl)
      (fun a j e x ha hx => by
        obtain ⟨v, hv, hrep⟩ := zeros_row zv.cells hzs hzl (hzr _) q q (Nat.le_refl _) h0 a j e x ha hx
        exact ⟨v, by rw [zeroCells_made, hzs]; simpa using hv, hrep⟩)
    have eU : uH h [(n, Blk.row 0 i.sz (List.replicate ((q : Nat) : Int).toNat i.z) true)] = setH h n (.row 0 i.sz (List.replicate q i.z) true) := rfl
    rw [eU]
    refine ⟨_, _, m', hrun, ?_, ?_, ?_⟩
    · simpa using e2
    · simpa using M2
    · have := row_new (w := w) (z := i.sz) (es := List.replicate q i.z) (l := true) (len := q) (m := m') (h := setH h n (.row 0 i.sz (List.replicate q i.z) true)) hψ hge (W := w.drew.alloc (.cells ((Builtin.zeroCells zv.cells q).toList.toArray ++ Builtin.zeroCells zv.cells (grownCap w q 0 et - (List.replicate q i.z).length)) et)) (B := c.B) (by simp [setH])
      simpa using this
  · rename_i id ver off len
    split at hq <;> simp only [Option.some.injEq, Prod.mk.injEq, reduceCtorEq] at hq
    rename_i z es l hrow
    obtain ⟨rfl, rfl, rfl⟩ := hq
    obtain ⟨h0, hb0, hp0, hz1, rfl, hlen, rfl, hroom⟩ := hp
    obtain ⟨q, rfl⟩ : ∃ q : Nat, p' = q := ⟨p'.toNat, by omega⟩
    simp only [Int.toNat_natCast] at hroom ⊢
    have hxr := bytes_bound hb0 hroom
    have hq48 : q * inf.bytes ≤ 281474976710656 := by
      have : q * i.nb ≤ (len + q) * i.nb := Nat.mul_le_mul_right _ (by omega)
      rw [hnb]; unfold room at hroom; omega
    have hone : ∀ u ∈ (Builtin.zeroCells zv.cells q).toList, u.oneCell' = true := fun u hu => by
      obtain ⟨a, ha⟩ := List.getElem?_of_mem hu
      have hlt := (List.getElem?_eq_some_iff.1 ha).1
      simp only [Array.length_toList, size_zeroCells, hzs] at hlt
      have hpos : 0 < q := Nat.pos_of_ne_zero (fun e => by subst e; simp at hlt)
      have hdiv : a / i.sz < q := Nat.div_lt_of_lt_mul (by rw [Nat.mul_comm]; exact hlt)
      have hjz : a % i.sz < i.z.length := by rw [hzl]; exact Nat.mod_lt _ h0
      obtain ⟨x, hx⟩ := list_get hjz
      obtain ⟨v, hv, hrep⟩ := zeros_row zv.cells hzs hzl (hzr (fun _ => True)) q q (Nat.le_refl _) h0 (a / i.sz) (a % i.sz) i.z x (by simp [List.getElem?_replicate, hdiv]) hx
      rw [Nat.mul_comm (a / i.sz), Nat.div_add_mod, show madeCells zv.cells (q * i.sz) = Builtin.zeroCells zv.cells q by rw [zeroCells_made, hzs]] at hv
      have ha' : (Builtin.zeroCells zv.cells q)[a]? = some u := by simpa using ha
      rw [ha'] at hv
      simp only [Option.some.injEq] at hv
      subst hv
      exact one_of_rep hrep (hz1 x (List.mem_of_getElem? hx))
    have H := onto_row (P := P) (S := Builtin.append_ #[t, t'] ty #[rv, .int k (q : Int)]) hM (zc := zv.cells) (et := et) h0 hzs (xs := List.replicate q i.z) (lf := true) (rowOf_sub hs hrow) hlen (fun e he => by rw [(List.mem_replicate.1 he).2]; exact hzl)
      (by simpa using hxr) (news := (Builtin.zeroCells zv.cells q).toList) (by simp [size_zeroCells, hzs])
      (fun a j e x ha hx => by
        obtain ⟨v, hv, hrep⟩ := zeros_row zv.cells hzs hzl (hzr _) q q (Nat.le_refl _) h0 a j e x ha hx
        exact ⟨v, by rw [zeroCells_made, hzs]; simpa using hv, hrep⟩) hv
      (fun A cap hA hc hx => by
        subst hA
        obtain rfl : q = 0 := by simpa using hx
        exact run_zeros_nothing hut hud hinf k A len cap hc)
      (fun g cap rcs tt hA hg hpos hfit hfz => by
        subst hA
        simp only [List.length_replicate] at hpos hfit ⊢
        have hrun := run_zeros_room (P := P) (ty := ty) hut hud hinf hzv k g len cap rcs tt hg q hpos (by rw [hsz]; exact h0) hq48 hone hfit (by rw [hsz]; exact hfz) (by unfold room at hxr; omega)
        rw [hsz] at hrun
        exact hrun)
      (fun A cap olds hA hol holds hA0 hpos hcap => by
        subst hA
        simp only [List.length_replicate] at hpos hcap ⊢
        have hold : (Builtin.firstCells inf.size len (.slice A len cap)).run P w.drew = .ok olds.toArray w.drew := by
          rcases A with _ | b
          · have hc0 := hA0 rfl
            subst hc0
            obtain rfl : len = 0 := by
              cases hv with
              | row _ _ _ _ _ _ _ _ hcap _ => omega
            obtain rfl : olds = [] := List.eq_nil_of_length_eq_zero (by simpa using hol)
            exact run_firstCells_none _ _ _ _ _
          · exact run_firstCells_some (P := P) w.drew inf.size len b len cap olds (by rw [hsz]; exact hol) (fun j u hj => holds b rfl j u hj)
        have hrun := Lib.run_append_grow_zeros (P := P) w t t' ty et inf zv k _ hut hud hinf hzv A len cap olds hold q hpos (by rw [hsz]; exact h0) hcap (by unfold room at hxr; omega) hq48 (growslice_fits (by omega) (by rw [hnb]; unfold room at hroom; omega))
        rw [hrun]
        congr 1
        rw [← List.append_toArray])
    simpa only [List.length_replicate, Bool.and_true] using H
  · cases hq
theorem qAppend_sound (hP : TIok P ti) (hM : Mem c m h w) (hs : Sub h1 h) {n : Nat} (hn : h n = none) {t : Nat} {v u : AV} {rv ru : Value} (hv : VR m c.B h w rv v) (hu : VR m c.B h w ru u)
    {p : Prop} {x : AV} {us : List (Nat × Blk)} (hq : qAppend ti h1 n t v u = some (p, x, us)) (hp : p) (ty : TypeId) :
    ∃ r w' m', (Builtin.append_ #[t, t] ty #[rv, ru]).run P w = .ok r w' ∧ Ext m h w m' (uH h us) w' ∧ Mem c m' (uH h us) w' ∧ VR m' c.B (uH h us) w' r x := by
  unfold qAppend at hq
  split at hq <;> try cases hq
  rename_i i xs lx hi hel
  obtain ⟨et, hut, hT⟩ := elemOfS_some hP hi
  obtain ⟨inf, zv, hinf, hzv, hsz, hnb, hzs, _, _, _⟩ := zero_cells (m := m) (c := c) (h := h) (w := w) hT
  have hel' := elems_sub hs hel
  generalize hlf : flagOf xs lx = lf at hq
  -- nothing or something onto nothing
  have onto : ∀ (A : Option Addr), (0 < i.sz ∧ 0 < i.nb ∧ okEs i.sz xs ∧ xs.length * i.nb ≤ room) →
      ∃ r w' m', (Builtin.append_ #[t, t] ty #[.slice A 0 0, ru]).run P w = .ok r w' ∧ Ext m h w m' (uH h [(n, .row 0 i.sz xs lf)]) w' ∧ Mem c m' (uH h [(n, .row 0 i.sz xs lf)]) w' ∧
        VR m' c.B (uH h [(n, .row 0 i.sz xs lf)]) w' r (.row n 0 0 xs.length) := by
    intro A ⟨h0, hb0, hok, hroom⟩
    obtain ⟨A', k, rfl, hr1, news, hnl, hnews, hnr⟩ := elems_cells hM hel' hu i.sz (okEs_len hok) h0
    simp only at hnl hnews hnr
    replace hnr := flag_rep hlf hnr
    have hxr := bytes_bound hb0 hroom
    rcases Nat.eq_zero_or_pos xs.length with hz | hpos
    · have hnil : xs = [] := List.eq_nil_of_length_eq_zero hz
      subst hnil
      refine ⟨.slice A 0 0, w, _, run_append_nothing hut hinf A A' 0 0 k (Nat.le_refl _), (hM.add hn (.row 0 i.sz [] lf) 0 (0, 0) (fun g hg => by simp [placeB, setF] at hg) (fun he => ⟨by simp [setF], by simp, by simp, fun h0 => by simp [setF] at h0⟩)).1,
        (hM.add hn (.row 0 i.sz [] lf) 0 (0, 0) (fun g hg => by simp [placeB, setF] at hg) (fun he => ⟨by simp [setF], by simp, by simp, fun h0 => by simp [setF] at h0⟩)).2, ?_⟩
      exact .row n 0 0 0 0 A (by simp [uH]) (fun _ _ _ _ _ => Nat.zero_le _) (Nat.le_refl _) fun z es l hr => ⟨by simp, by simp⟩
    · obtain ⟨ad, rfl, hcell⟩ := hnews hpos
      have hge := grownCap_ge w xs.length 0 et
      obtain ⟨m', e2, M2, hψ⟩ := grown_row hM hn (ty := et) (k := grownCap w xs.length 0 et) (l := lf) zv.cells hzs hnl hge hxr (okEs_len hok) hnr
      refine ⟨_, _, m', ?_, e2, M2, row_new (h := setH h n (.row 0 i.sz xs lf)) (z := i.sz) (es := xs) (l := lf) hψ hge (by simp [setH])⟩
      have hroom' : xs.length * inf.bytes ≤ 140737488355328 := by rw [hnb]; exact hroom
      have hlt : (xs.length : Int) ≤ 9223372036854775807 := by unfold room at hxr; omega
      rcases A with _ | b
      · exact run_append_nil w t ty et inf zv hut hinf hzv ad xs.length k news (by rw [hsz]; exact hnl) hcell hpos hlt (by omega)
      · have := run_append_grow (P := P) w t ty et inf zv hut hinf hzv b 0 0 [] (by simp) (by simp) ad xs.length k news (by rw [hsz]; exact hnl) hcell (by omega) (by simpa using hlt) (by rw [Nat.zero_add]; exact growslice_fits hpos hroom')
        simpa using this
  split at hq
  · simp only [Option.some.injEq, Prod.mk.injEq] at hq
    obtain ⟨rfl, rfl, rfl⟩ := hq
    cases hv
    exact onto none hp
  · simp only [Option.some.injEq, Prod.mk.injEq] at hq
    obtain ⟨rfl, rfl, rfl⟩ := hq
    cases hv with
    | e0 A => exact onto A hp
  · rename_i id ver off len
    split at hq <;> simp only [Option.some.injEq, Prod.mk.injEq, reduceCtorEq] at hq
    rename_i z es l hrow
    obtain ⟨rfl, rfl, rfl⟩ := hq
    obtain ⟨h0, hb0, hok, rfl, hlen, rfl, hroom⟩ := hp
    have hrow' := rowOf_sub hs hrow
    have hid := rowOf_some hrow'
    obtain ⟨A', k, rfl, hr1, news, hnl, hnews, hnr⟩ := elems_cells hM hel' hu i.sz (okEs_len hok) h0
    simp only at hnl hnews hnr hr1
    replace hnr := flag_rep hlf hnr
    have hxr := bytes_bound hb0 hroom
    refine onto_row hM h0 hzs hrow' hlen (okEs_len hok) hxr hnl hnr hv (et := et) (fun A cap hA hc hx => ?_) (fun g cap rcs tt hA hg hpos hfit hfz => ?_) (fun A cap olds hA hol holds hA0 hpos hcap => ?_)
    · subst hA; subst hx
      exact run_append_nothing hut hinf A A' len cap k hc
    · subst hA
      obtain ⟨ad, rfl, hcell⟩ := hnews hpos
      have hrun := run_append_room' (P := P) (ty := ty) hut hinf g len cap rcs tt hg ad xs.length k news (by rw [hsz]; exact hnl) hcell (news_one hok h0 hnl hnr) hfit (by rw [hsz]; exact hfz)
      rw [hsz] at hrun
      exact hrun
    · subst hA
      obtain ⟨ad, rfl, hcell⟩ := hnews hpos
      have hlt : ((len + xs.length : Nat) : Int) ≤ 9223372036854775807 := by unfold room at hxr; omega
      have hroom' : (len + xs.length) * inf.bytes ≤ 140737488355328 := by rw [hnb]; exact hroom
      rcases A with _ | b
      · have hcap0 := hA0 rfl
        subst hcap0
        obtain rfl : len = 0 := by
          cases hv with
          | row _ _ _ _ _ _ _ _ hcap _ => omega
        obtain rfl : olds = [] := List.eq_nil_of_length_eq_zero (by simpa using hol)
        have := run_append_nil w t ty et inf zv hut hinf hzv ad xs.length k news (by rw [hsz]; exact hnl) hcell hpos (by simpa using hlt) (by simp only [Nat.zero_add] at hroom'; omega)
        simpa using this
      · have := run_append_grow (P := P) w t ty et inf zv hut hinf hzv b len cap olds (by rw [hsz]; exact hol) (holds b rfl) ad xs.length k news (by rw [hsz]; exact hnl) hcell (by omega) hlt (growslice_fits (by omega) hroom')
        rw [this]
        congr 1
        simp
  · cases hq
end
end Go.Proofs.YtgkmhmhbepfiaaaDoor.Pm
set_option linter.all false
namespace Go.Proofs.YtgkmhmhbepfiaaaDoor.Pm
open Go Go.RowKit
section
variable {P : Program} {w w' : World} {c : Ct} {m m' : Mp} {h h' h1 : H} {ti : Nat → Option TI} {tm : Tm} {a : Act}
theorem run_buildSlice' (w : World) (t e : TypeId) (len : Nat) (parts : Array (Nat × Value)) (cells : Array Value) (ie : TypeInfo) (z : Value)
    (hu : P.underlying t = some (.slice e)) (hie : P.info? e = some ie) (hz : ie.zero = some z) (hsmall : ¬ len * ie.size > 2 ^ 24)
    (h : Instr.fill (fun i => some (i * ie.size, ie.size)) (madeCells z.cells (len * ie.size)) parts.toList = some cells) :
    (Instr.buildSlice t len parts).run P w = .ok (.slice (some ⟨w.heap.size, 0, none⟩) len len) (w.alloc (.cells cells e)) := by
  by_cases h0 : len * ie.size = 0
  · have e0 : madeCells z.cells (len * ie.size) = #[] := by apply Array.eq_empty_of_size_eq_zero; rw [size_madeCells, h0]
    have hr0 : ∀ f : Nat → Value, (Array.range 0).map f = #[] := fun f => by apply Array.eq_empty_of_size_eq_zero; simp
    rw [e0] at h
    simp [Instr.buildSlice, run_underlying hu, sizeOf, typeInfo, hie, h0, newRow]
    rw [hr0, h]
    simp
  · exact run_buildSlice w t e len parts cells ie z hu hie hz hsmall h0 h
theorem uH_ne (h : H) {n : Nat} : ∀ (us : List (Nat × Blk)), (∀ u ∈ us, u.1 ≠ n) → uH h us n = h n
  | [], _ => rfl
  | u :: us, hu => by
    rw [uH_cons, uH_ne (setH h u.1 u.2) us (fun v hv => hu v (List.mem_cons_of_mem _ hv))]
    have := hu u (List.mem_cons_self ..)
    simp [setH, Ne.symm this]
theorem qBuildSlice_sound (hP : TIok P ti) (hS : Sat c m h tm a w) (hs : Sub h1 h) {n : Nat} (hn : h n = none) {t len : Nat} {ps : Array (Nat × Operand)} {i : TI} (hi : elemOfS ti t = some i)
    {es : List (List T)} {l : Bool} {u : List (Nat × Blk)} (hf : fillS h1 tm i.sz ps.toList (List.replicate len i.z) = some (es, l, u)) (hsm : len * i.sz ≤ 16777216) (h0 : 0 < i.sz) :
    ∃ r w' m', (Instr.buildSlice t len (ps.map fun (i, x) => (i, a.eval x))).run P w = .ok r w' ∧ Ext m h w m' (uH h (u ++ [(n, .row 0 i.sz es l)])) w' ∧
      Mem c m' (uH h (u ++ [(n, .row 0 i.sz es l)])) w' ∧ VR m' c.B (uH h (u ++ [(n, .row 0 i.sz es l)])) w' r (.row n 0 0 len) := by
  obtain ⟨et, hut, hT⟩ := elemOfS_some hP hi
  obtain ⟨inf, zv, hinf, hzv, hsz, hnb, hzs, _, hzl, hzr⟩ := zero_cells (m := m) (c := c) (h := h) (w := w) hT
  have hrow0 : RowR w (gok m c.B [] true) i.sz (madeCells zv.cells (len * i.sz)) (List.replicate len i.z) := by
    refine ⟨by simp [size_madeCells], fun k e he => ?_, zeros_row zv.cells hzs hzl (hzr _) len len (Nat.le_refl _) h0⟩
    rw [List.getElem?_replicate] at he
    split at he <;> simp only [Option.some.injEq, reduceCtorEq] at he
    rw [← he]; exact hzl
  obtain ⟨ids, hids, hidk, hlen, real, hfill, hR⟩ := fillS_sound hS hs i.sz ps.toList _ _ _ [] true hrow0 (fillS_sub hs hf)
  simp only [List.length_replicate, List.nil_append, Bool.true_and] at hids hlen hR
  subst hids
  obtain ⟨st', e1, M1, hst1, hst2⟩ := goesAll ids hS.mem (fun id hid => .inl (hidk id hid))
  have hnn : uH h (ids.map fun i => (i, Blk.gone)) n = none := by
    rw [uH_ne]; exact hn
    intro u hu e
    obtain ⟨k, hk, rfl⟩ := List.mem_map.1 hu
    obtain ⟨ver, z, es, l, hh⟩ := hidk k hk
    simp only at e
    rw [e, hn] at hh
    cases hh
  have hlr : len ≤ room := by
    have : len * 1 ≤ len * i.sz := Nat.mul_le_mul_left _ h0
    unfold room; omega
  obtain ⟨m', e2, M2, hψ⟩ := M1.newRow hnn real et i.sz len es l (by omega) (by omega) hR.2.1 (by rw [hR.1, hlen]; exact Nat.le_refl _) (fun p j e x he hx => by
    obtain ⟨v, hv, hrep⟩ := hR.2.2 p j e x he hx
    refine ⟨v, hv, hrep.mono (fun b hb => ⟨?_, hb.2⟩) (fun _ _ => rfl)⟩
    rcases hb.1 with hb1 | ⟨id, hid, hpos, rfl⟩
    · exact hst1 _ hb1
    · obtain ⟨ver, z, es, l, hh⟩ := hidk id hid
      exact hst2 id hid _ _ _ _ hh hpos)
  have hrun := run_buildSlice' (P := P) w t et len (ps.map fun (i, x) => (i, a.eval x)) real inf zv hut hinf hzv (by rw [hsz]; omega) (by
    rw [hsz]
    simpa using hfill)
  rw [uH_append]
  refine ⟨_, _, m', hrun, e1.trans e2, M2, row_new (z := i.sz) (es := es) (l := l) (h := setH (uH h (ids.map fun i => (i, Blk.gone))) n (.row 0 i.sz es l)) hψ (Nat.le_refl _) (by simp [setH])⟩
theorem qMake_sound (hP : TIok P ti) (hM : Mem c m h w) {n : Nat} (hn : h n = none) {t : Nat} {i : TI} (hi : elemOfS ti t = some i) {k k' : IntKind} {p r : Int} (h0 : 0 < i.sz) (hp0 : 0 ≤ p) (hpr : p ≤ r) (hb : r * i.nb ≤ room) (hr : r ≤ room) :
    ∃ v w' m', (Instr.makeSlice t (.int k p) (.int k' r)).run P w = .ok v w' ∧ Ext m h w m' (uH h [(n, .row 0 i.sz (List.replicate p.toNat i.z) true)]) w' ∧
      Mem c m' (uH h [(n, .row 0 i.sz (List.replicate p.toNat i.z) true)]) w' ∧ VR m' c.B (uH h [(n, .row 0 i.sz (List.replicate p.toNat i.z) true)]) w' v (.row n 0 0 p.toNat) := by
  obtain ⟨et, hut, hT⟩ := elemOfS_some hP hi
  obtain ⟨inf, zv, hinf, hzv, hsz, hnb, hzs, _, hzl, hzr⟩ := zero_cells (m := m) (c := c) (h := h) (w := w) hT
  have hb' : (inf.bytes : Int) * r ≤ 140737488355328 := by rw [hnb, Int.mul_comm]; exact hb
  have hr' : r ≤ 140737488355328 := hr
  have hrun := run_make (P := P) w t et inf zv hut hinf hzv k k' p r hp0 hpr (by omega) (by omega)
  obtain ⟨m', e2, M2, hψ⟩ := hM.newRow hn (madeCells zv.cells (r.toNat * inf.size)) et i.sz r.toNat (List.replicate p.toNat i.z) true (by simp; omega) (by unfold room; simp; omega)
    (fun q e he => by
      rw [List.getElem?_replicate] at he
      split at he <;> simp only [Option.some.injEq, reduceCtorEq] at he
      rw [← he]; exact hzl) (by rw [size_madeCells, hsz]; exact Nat.le_refl _)
    (by rw [hsz]; exact zeros_row zv.cells hzs hzl (hzr _) p.toNat r.toNat (by omega) h0)
  exact ⟨_, _, m', hrun, e2, M2, row_new (z := i.sz) (es := List.replicate p.toNat i.z) (l := true) (h := setH h n (.row 0 i.sz (List.replicate p.toNat i.z) true)) hψ (by omega) (by simp [setH])⟩
theorem qBytes_sound (hM : Mem c m h w) {src dst e : TypeId} {y : ByteArray} (hs : P.underlying src = some .string) (hd : P.underlying dst = some (.slice e)) (he : P.underlying e = some (.int .u8)) (hy : y.size ≤ room) :
    ∃ v w' m', (convert src dst (.string y)).run P w = .ok v w' ∧ Ext m h w m' h w' ∧ Mem c m' h w' ∧ VR m' c.B h w' v (.t (.sl (bytesOfStr y)) true) := by
  have hrun := run_bytes_of_string (P := P) w src dst e y hs hd he
  generalize hC : bytesRow y (grownCap w y.size 0 e) = C at hrun
  generalize hk : grownCap w y.size 0 e = k at hrun
  have hge : y.size ≤ k := by rw [← hk]; exact grownCap_ge w y.size 0 e
  have hbl : Below w.heap.size w (w.drew.alloc (.cells C e (C.size, C.size + 1))) := (below_drew w).alloc (by exact Nat.le_refl _) _
  obtain ⟨e1, M1⟩ := hM.grow hbl
  have hsz : (w.drew.alloc (.cells C e (C.size, C.size + 1))).heap.size = w.heap.size + 1 := by
    show (w.heap.push _).size = _
    simp
  have hnew : (w.drew.alloc (.cells C e (C.size, C.size + 1))).heap[w.heap.size]? = some (.cells C e (C.size, C.size + 1)) := heap_alloc_new w.drew _
  obtain ⟨e2, M2⟩ := M1.addSt (fun b => b = w.heap.size) (fun b hb => by
    subst hb
    refine ⟨by omega, hM.bsize, fun i hi => ?_, softB.end hnew (Nat.le_refl _), fun hR => Nat.lt_irrefl _ (hM.res _ hR).1⟩
    exact Nat.lt_irrefl _ (hM.place_lt hi).1)
  refine ⟨_, _, _, hrun, e1.trans e2, M2, .t _ _ _ (.sl _ _ _ _ 1 (fun i _ => .int .u8 ((y.data.toList.getD i 0).toNat : Int)) (by simp [bytesOfStr]) hge hy (fun e => by cases e) (fun i e' he' => ?_) (fun h0 => ⟨_, rfl, ?_, fun i j hi hj => ?_⟩) (fun i j e' x he' hx => ?_))⟩
  · simp [bytesOfStr] at he'
    obtain ⟨_, _, rfl⟩ := he'
    rfl
  · exact ⟨.inr rfl, fun _ => hM.bsize⟩
  · obtain rfl : j = 0 := by omega
    rw [add_lit, cell_lit hnew, ← hC]
    unfold bytesRow
    have hi' : i < y.data.size := hi
    rw [Array.getElem?_append_left (by simp; omega)]
    rw [show 0 + (i * 1 + 0) = i by omega, Array.getElem?_map, Array.getElem?_eq_getElem hi']
    simp [List.getD, Array.getElem?_eq_getElem hi']
  · simp [bytesOfStr] at he'
    obtain ⟨b, hb, rfl⟩ := he'
    cases j with
    | zero =>
      simp at hx
      subst hx
      have : y.data.toList.getD i 0 = b := by simp [List.getD, hb]
      rw [this]
      exact .i _ _
    | succ j => simp at hx
theorem Rep.move {w w' : World} {B : Nat → Prop} {v : Value} {x : T} (h : Rep w B v x) (hw : ∀ a : Addr, B a.block → w'.cell? a = w.cell? a) : Rep w' B v x := by
  induction h with
  | i k n => exact .i k n
  | b x => exact .b x
  | s x => exact .s x
  | what v h => exact .what v h
  | val v h => exact .val v h
  | ne a c => exact .ne a c
  | inn D v x h hr ih => exact .inn D v x h (ih fun a ha => hw a ha.1)
  | sl A n c es z vals hn hc hm hz0 hz hA hv ih =>
    refine .sl A n c es z vals hn hc hm hz0 hz (fun h0 => ?_) (fun i j e x he hx => ih i j e x he hx hw)
    obtain ⟨ad, e, hb, hcell⟩ := hA h0
    exact ⟨ad, e, hb, fun i j hi hj => (hw _ (by rw [block_add]; exact hb)).trans (hcell i j hi hj)⟩
  | nl => exact .nl
  | agg vs cs hs h ih => exact .agg vs cs hs (fun j v x hv hx => ih j v x hv hx hw)
  | tup vs cs hs h ih => exact .tup vs cs hs (fun j v x hv hx => ih j v x hv hx hw)
  | pt a cs vals hb hc hv ih => exact .pt a cs vals hb (fun j hj => (hw _ (by rw [block_add]; exact hb)).trans (hc j hj)) (fun j x hx => ih j x hx hw)
  | fn f vs cs hs h ih => exact .fn f vs cs hs (fun j v x hv hx => ih j v x hv hx hw)
theorem Mem.drop (hM : Mem c m h w) {id ver z : Nat} {es : List (List T)} {l : Bool} (hid : h id = some (.row ver z es l)) :
    Ext m h w m (setH h id .gone) w ∧ Mem c m (setH h id .gone) w ∧ ∀ i, place m (setH h id .gone) i ≠ none → i ≠ id ∧ place m h i = place m (setH h id .gone) i := by
  have he : Ext m h w m (setH h id .gone) w := by
    refine ⟨fun i hi => ?_, fun _ _ => rfl, fun i v' z es l hi hh => ?_, fun i ver z es l hi _ hr => ?_, fun _ h => h, fun b hs => rfl⟩
    · by_cases e : i = id <;> simp [setH, e, hi]
    · by_cases e : i = id
      · subst e; simp [setH] at hh
      · exact ⟨v', z, es, l, by simpa [setH, e] using hh, Nat.le_refl _⟩
    · by_cases e : i = id
      · subst e; simp [rowOf, setH] at hr
      · exact ⟨⟨es, l, by simpa [rowOf, setH, e] using hr⟩, rfl⟩
  have hpl : ∀ i, i ≠ id → place m (setH h id .gone) i = place m h i := fun i hi => by
    unfold place
    simp only [setH, if_neg hi]
  have hpi : place m (setH h id .gone) id = none := by simp [place, setH, placeB]
  refine ⟨he, ⟨hM.below, he.kept hM.kept, fun i b hi => ?_, fun i j g hi hj => ?_, hM.stlt, hM.stin, hM.soft, fun b h => ⟨(hM.res b h).1, (hM.res b h).2.1, fun i hi => ?_, (hM.res b h).2.2.2⟩⟩, fun i hi => ?_⟩
  · by_cases e : i = id
    · subst e; simp [setH] at hi; subst hi; trivial
    · have hi' : h i = some b := by simpa [setH, e] using hi
      exact (hM.blk i b hi').keep he rfl rfl fun g hg => ⟨(hM.placed hi' hg).2.2, rfl⟩
  · by_cases e : i = id
    · subst e; rw [hpi] at hi; cases hi
    · by_cases e' : j = id
      · subst e'; rw [hpi] at hj; cases hj
      · rw [hpl i e] at hi; rw [hpl j e'] at hj; exact hM.sep i j g hi hj
  · by_cases e : i = id
    · subst e; rw [hpi] at hi; cases hi
    · rw [hpl i e] at hi; exact (hM.res b h).2.2.1 i hi
  · by_cases e : i = id
    · subst e; exact (hi hpi).elim
    · exact ⟨e, (hpl i e).symm⟩
theorem Mem.touch (hM : Mem c m h w) {w' : World} (b : Nat) (hB : c.B ≤ b) (hs : ¬ m.st b) (hp : ∀ i, place m h i ≠ some b) (hRb : ¬ c.R b) (ho : w'.os = w.os) (ht : w'.tape = w.tape) (hu : w'.output = w.output) (hz : w'.heap.size = w.heap.size)
    (hh : ∀ k, k ≠ b → w'.heap[k]? = w.heap[k]?) : Ext m h w m h w' ∧ Mem c m h w' := by
  have he : Ext m h w m h w' := ⟨fun _ h => h, fun _ _ => rfl, fun _ v' z es l _ hh => ⟨v', z, es, l, hh, Nat.le_refl _⟩, fun _ _ _ es l _ _ hr => ⟨⟨es, l, hr⟩, rfl⟩, fun _ h => h, fun k hk => hh k fun e => hs (e ▸ hk)⟩
  refine ⟨he, ⟨⟨ho.trans hM.below.os, ht.trans hM.below.tape, hu.trans hM.below.output, by rw [hz]; exact hM.below.size, fun k hk => (hh k (by omega)).trans (hM.below.block k hk)⟩, he.kept hM.kept, fun i b' hi => ?_, hM.sep, fun k hk => by rw [hz]; exact hM.stlt k hk, hM.stin, hM.softE he, fun k h => ⟨by rw [hz]; exact (hM.res k h).1, (hM.res k h).2.1, (hM.res k h).2.2.1, (hh k (fun e => hRb (e ▸ h))).trans (hM.res k h).2.2.2⟩⟩⟩
  refine (hM.blk i b' hi).keep he rfl rfl fun g hg => ⟨(hM.placed hi hg).2.2, hh g fun e => ?_⟩
  subst e
  exact hp i (by unfold place; rw [hi]; exact hg)
theorem freeze_heap {w : World} {b n : Nat} {rcs : Array Value} {t : Nat} {k : Nat} (hb : w.heap[b]? = some (.cells rcs t (0, 0))) :
    (w.freeze ⟨b, n, none⟩ 1).heap[k]? = if k = b then some (.cells rcs t (n, n + 1)) else w.heap[k]? := by
  unfold World.freeze
  rw [if_neg (by decide)]
  have hlt := (Array.getElem?_eq_some_iff.1 hb).1
  by_cases e : k = b
  · subst e
    rw [if_pos rfl]
    simp only [Array.getElem?_modify, if_true, hb, Option.map_some]
    rfl
  · rw [if_neg e]
    simp only [Array.getElem?_modify]
    rw [if_neg (fun h => e h.symm)]
theorem qMark_sound (hM : Mem c m h w) {t e : Nat} (ht : P.underlying t = some (.slice e)) (hu8 : P.underlying e = some (.int .u8)) {id ver off len : Nat} {x : T} {l : Bool} {us : List (Nat × Blk)} (hx : emb h (.row id ver off len) = some (x, l, us)) (h0 : 0 < len)
    {rv : Value} (hv : VR m c.B h w rv (.row id ver off len)) :
    ∃ v w' m', (convert t t rv).run P w = .ok v w' ∧ Ext m h w m' (uH h us) w' ∧ Mem c m' (uH h us) w' ∧ VR m' c.B (uH h us) w' v (.t x l) := by
  simp only [emb] at hx
  split at hx <;> try cases hx
  rename_i z es l' hr
  split at hx <;> simp only [Option.some.injEq, Prod.mk.injEq, reduceCtorEq] at hx
  rename_i hl
  obtain ⟨rfl, rfl, rfl⟩ := hx
  have hrep := row_rep hM hv hr hl
  have hid := rowOf_some hr
  obtain ⟨h6, _, _, h9⟩ := hM.blk _ _ hid
  have hpos : 0 < (m.ψ id).2 := by omega
  obtain ⟨hB, hst, rcs, ty, hheap, _, _⟩ := h9 hpos
  have hplace : place m h id = some (m.ψ id).1 := by simp [place, hid, placeB, hpos]
  cases hv with
  | row _ _ _ _ k A hid' hver hk hrow =>
    obtain ⟨h4, h5⟩ := hrow _ _ _ hr
    have hA := h5 (by omega)
    subst hA
    have hrun : (convert t t (.slice (some ((⟨(m.ψ id).1, 0, none⟩ : Addr).add (off * z))) len k)).run P w = .ok (.slice (some ((⟨(m.ψ id).1, 0, none⟩ : Addr).add (off * z))) len k) (w.freeze ⟨(m.ψ id).1, rcs.size, none⟩ 1) := by
      have hsh : w.shape? (m.ψ id).1 = some (ty, rcs.size) := by unfold World.shape?; rw [hheap]
      simp [convert, run_underlying ht, run_underlying hu8, markStringish, block_add, hsh]
    have hfz := fun k => freeze_heap (n := rcs.size) (k := k) hheap
    have hsz : (w.freeze ⟨(m.ψ id).1, rcs.size, none⟩ 1).heap.size = w.heap.size := by unfold World.freeze; rw [if_neg (by decide)]; simp
    obtain ⟨e1, M1, hpl⟩ := hM.drop hid
    have hno : ∀ i, place m (setH h id .gone) i ≠ some (m.ψ id).1 := fun i hi => by
      obtain ⟨hne, hi2⟩ := hpl i (by rw [hi]; simp)
      exact hne (hM.sep i id _ (hi2.trans hi) hplace)
    obtain ⟨e2, M2⟩ := M1.touch (w' := w.freeze ⟨(m.ψ id).1, rcs.size, none⟩ 1) (m.ψ id).1 hB hst hno (fun hR => (hM.res _ hR).2.2.1 id hplace) (by unfold World.freeze; rw [if_neg (by decide)]) (by unfold World.freeze; rw [if_neg (by decide)]) (by unfold World.freeze; rw [if_neg (by decide)]) hsz
      (fun k hk => by rw [hfz k, if_neg hk])
    obtain ⟨e3, M3⟩ := M2.addSt (fun b => b = (m.ψ id).1) (fun b hb => by
      subst hb
      exact ⟨by rw [hsz]; exact (hM.place_lt hplace).1, hB, hno, softB.end (by rw [hfz _, if_pos rfl]) (Nat.le_refl _), fun hR => (hM.res _ hR).2.2.1 id hplace⟩)
    refine ⟨_, _, _, hrun, (e1.trans e2).trans e3, M3, .t _ _ _ ?_⟩
    refine (hrep.mono (B' := ({ m with st := fun b => m.st b ∨ b = (m.ψ id).1 } : Mp).ok c.B l') (fun b hb => ⟨hb.1.imp (fun q => q) (·.2), hb.2⟩) (fun _ _ => rfl)).move fun a _ => ?_
    simp only [World.cell?]
    rw [hfz a.block]
    by_cases e : a.block = (m.ψ id).1
    · rw [if_pos e, e, hheap]
    · rw [if_neg e]
theorem qStr_run (hM : Mem c m h w) {u : AV} {es : List (List T)} {l : Bool} (hp : elems h u = some (es, l)) {rv : Value} (hv : VR m c.B h w rv u) (hb : areBytes es) {src e dst : TypeId}
    (hs : P.underlying src = some (.slice e)) (he : P.underlying e = some (.int .u8)) (hd : P.underlying dst = some .string) : (convert src dst rv).run P w = .ok (.string (strOf es)) w := by
  obtain ⟨A, k, rfl, _, news, hl, hA, hrep⟩ := elems_cells hM hp hv 1 (fun e he => by obtain ⟨n, rfl⟩ := hb e he; rfl) (by decide)
  simp only at hl hA hrep
  rw [run_convert_bytes_string w src dst e _ _ _ hs he hd]
  have hnews : news = (es.map byteOf).map (Value.int .u8) := by
    apply List.ext_getElem?
    intro i
    by_cases hi : i < es.length
    · obtain ⟨n, hn⟩ := hb es[i] (List.getElem_mem hi)
      obtain ⟨v, hv1, hv2⟩ := hrep i 0 es[i] (.i .u8 n) (List.getElem?_eq_getElem hi) (by rw [hn]; rfl)
      rw [Nat.mul_one, Nat.add_zero] at hv1
      cases hv2
      rw [hv1]
      simp [hi, hn, byteOf]
    · rw [List.getElem?_eq_none (by omega), List.getElem?_eq_none (by simp; omega)]
  by_cases h0 : 0 < es.length
  · obtain ⟨ad, rfl, hcell⟩ := hA h0
    have hlc := run_loadCells_list (P := P) w ad news hcell
    rw [hl, Nat.mul_one, hnews] at hlc
    rw [run_bytesToString w ad _ k (es.map byteOf) hlc, foldl_push_bytes]
    simp [strOf, ByteArray.empty, ByteArray.emptyWithCapacity, Function.comp_def]
    rfl
  · obtain rfl : es = [] := List.eq_nil_of_length_eq_zero (by omega)
    cases A with
    | none => simp [Conv.bytesToString, strOf]; rfl
    | some ad =>
      have hlc : (loadCells ad 0).run P w = .ok (([] : List Int).map (Value.int .u8)).toArray w := run_loadCells_list (P := P) w ad [] (by simp)
      rw [show ([] : List (List T)).length = 0 from rfl, run_bytesToString w ad _ k [] hlc]
      rfl
theorem q_sound (hP : TIok P ti) (hS : Sat c m h tm a w) (hs : Sub h1 h) {n : Nat} (hn : h n = none) {o : Oper} {p : Prop} {v : AV} {us : List (Nat × Blk)} (hq : q ti tm h1 n o.op = some (p, v, us)) (hp : p) :
    ∃ rv w' m', (execOp a.eval o).run P w = .ok (.value rv) w' ∧ Ext m h w m' (uH h us) w' ∧ Mem c m' (uH h us) w' ∧ VR m' c.B (uH h us) w' rv v := by
  by_cases ho : still o.op = true
  · obtain ⟨rfl, rv, hr, hv⟩ := q_still hP hS hs ho hq hp
    exact ⟨rv, w, m, hr, Ext.refl _ _ _, hS.mem, hv⟩
  obtain ⟨dst, op, ty, pos, after, guard⟩ := o
  simp only at ho hq ⊢
  cases op <;> simp only [still, not_true, Bool.false_eq_true, not_false_eq_true, q, reduceCtorEq] at ho hq
  case alloc e =>
    split at hq <;> simp only [Option.some.injEq, Prod.mk.injEq, reduceCtorEq] at hq
    rename_i i hi
    obtain ⟨rfl, rfl, rfl⟩ := hq
    obtain ⟨inf, zv, hinf, hzv, hsz, hnb, hzs, hcr, hzl, hzr⟩ := zero_cells (m := m) (c := c) (h := h) (w := w) (hP.ok _ _ hi)
    obtain ⟨m', e2, M2, hφ⟩ := hS.mem.newVar hn zv.cells e (i.z.map zAV) (by simpa using hcr.1) hcr.2
    refine ⟨_, _, m', by simp [execOp, Instr.alloc, zeroValue, typeInfo, hinf, hzv, newVar, newRow]; rfl, e2, M2, ?_⟩
    rw [← hφ]
    exact .ptr n 0 (by simp [uH])
  case box e x =>
    split at hq <;> try cases hq
    rename_i u hu
    split at hq <;> simp only [Option.some.injEq, Prod.mk.injEq, reduceCtorEq] at hq
    rename_i cs hc
    obtain ⟨rfl, rfl, rfl⟩ := hq
    obtain ⟨h1, h2⟩ := cells_vr hc (ev_vr hS hu)
    obtain ⟨m', e2, M2, hφ⟩ := hS.mem.newVar hn (a.eval x).cells e cs h1 h2
    refine ⟨_, _, m', by simp [execOp, Instr.box, newVar, newRow]; rfl, e2, M2, ?_⟩
    rw [← hφ]
    exact .ptr n 0 (by simp [uH])
  case build t ps =>
    split at hq <;> try cases hq
    rename_i i hi
    split at hq <;> simp only [Option.some.injEq, Prod.mk.injEq, reduceCtorEq] at hq
    rename_i cs hf
    obtain ⟨rfl, rfl, rfl⟩ := hq
    obtain ⟨real, hr, hc⟩ := build_sound hP hS hi hf hp
    exact ⟨.agg real, w, m, by simp [execOp, hr], Ext.refl _ _ _, hS.mem, .agg _ _ hc.1 hc.2⟩
  case buildSlice t len ps =>
    split at hq <;> try cases hq
    rename_i i hi
    split at hq <;> simp only [Option.some.injEq, Prod.mk.injEq, reduceCtorEq] at hq
    rename_i es l u hf
    obtain ⟨rfl, rfl, rfl⟩ := hq
    obtain ⟨r, w', m', hr, h2, h3, h4⟩ := qBuildSlice_sound hP hS hs hn hi hf hp.1 hp.2
    exact ⟨r, w', m', by simp only [execOp, Sem.run_bind, hr]; rfl, h2, h3, h4⟩
  case makeSlice t x y =>
    split at hq <;> simp only [Option.some.injEq, Prod.mk.injEq, reduceCtorEq] at hq
    rename_i i k p' l k' r' l' hi hx hy
    obtain ⟨rfl, rfl, rfl⟩ := hq
    obtain ⟨p1, p2, p3, p4, p5⟩ := hp
    have hvx := ev_vr hS hx
    have hvy := ev_vr hS hy
    generalize hex : a.eval x = rx at hvx
    generalize hey : a.eval y = ry at hvy
    cases hvx with
    | t _ _ _ hr =>
      cases hr
      cases hvy with
      | t _ _ _ hr =>
        cases hr
        obtain ⟨r, w', m', hr, h2, h3, h4⟩ := qMake_sound (P := P) (k := k) (k' := k') hP hS.mem hn hi p1 p2 p3 p4 p5
        exact ⟨r, w', m', by simp only [execOp, hex, hey, Sem.run_bind, hr]; rfl, h2, h3, h4⟩
  case convert src dst x =>
    split at hq <;> try cases hq
    · rename_i is k d1 d2 d3 k' mm l hsrc hd hx
      have hvx := ev_vr hS hx
      generalize hex : a.eval x = rx at hvx
      obtain ⟨ds, hus, _⟩ := (hP.ok _ _ hsrc).und
      obtain ⟨dd, hud, hdo⟩ := (hP.ok _ _ hd).und
      cases dd <;> first | exact (Bool.false_ne_true hdo).elim | skip
      simp only [dOK, beq_iff_eq] at hdo
      subst hdo
      cases hvx with
      | t _ _ _ hr =>
        cases hr
        exact ⟨_, w, m, by simp [execOp, convert, run_underlying hus, run_underlying hud, hex, Conv.intToInt], Ext.refl _ _ _, hS.mem, .t _ _ _ (.i _ _)⟩
    · rename_i s1 s2 s3 e d1 d2 d3 y l hsrc hd hx
      split at hq <;> simp only [Option.some.injEq, Prod.mk.injEq, reduceCtorEq] at hq
      rename_i e1 e2 e3 he
      obtain ⟨rfl, rfl, rfl⟩ := hq
      have hvx := ev_vr hS hx
      generalize hex : a.eval x = rx at hvx
      obtain ⟨ds, hus, hso⟩ := (hP.ok _ _ hsrc).und
      obtain ⟨dd, hud, hdo⟩ := (hP.ok _ _ hd).und
      obtain ⟨de, hue, heo⟩ := (hP.ok _ _ he).und
      cases dd <;> first | exact (Bool.false_ne_true hdo).elim | skip
      simp only [dOK, beq_iff_eq] at hdo
      subst hdo
      cases ds <;> first | exact (Bool.false_ne_true hso).elim | skip
      cases de <;> first | exact (Bool.false_ne_true heo).elim | skip
      simp only [dOK, beq_iff_eq] at heo
      subst heo
      cases hvx with
      | t _ _ _ hr =>
        cases hr
        obtain ⟨r, w', m', hr, h2, h3, h4⟩ := qBytes_sound (P := P) hS.mem hus hud hue hp
        exact ⟨r, w', m', by simp only [execOp, hex, Sem.run_bind, hr]; rfl, h2, h3, h4⟩
    · rename_i e0 s1 s2 s3 e d1 d2 d3 id ver off len hsrc hd hx
      split at hq <;> simp only [Option.some.injEq, Prod.mk.injEq, reduceCtorEq] at hq
      rename_i e1 e2 e3 y l us he hem
      obtain ⟨rfl, rfl, rfl⟩ := hq
      obtain ⟨rfl, hlen⟩ := hp
      have hvx := ev_vr hS hx
      obtain ⟨dd, hud, hdo⟩ := (hP.ok _ _ hd).und
      obtain ⟨de, hue, heo⟩ := (hP.ok _ _ he).und
      cases dd <;> first | exact (Bool.false_ne_true hdo).elim | skip
      simp only [dOK, beq_iff_eq] at hdo
      subst hdo
      cases de <;> first | exact (Bool.false_ne_true heo).elim | skip
      simp only [dOK, beq_iff_eq] at heo
      subst heo
      obtain ⟨r, w', m', hr, h2, h3, h4⟩ := qMark_sound (P := P) hS.mem hud hue (emb_sub hs hem) hlen hvx
      exact ⟨r, w', m', by simp only [execOp, Sem.run_bind, hr]; rfl, h2, h3, h4⟩
    · rename_i e0 s1 s2 s3 d1 d2 d3 u hsrc hd hx
      split at hq <;> simp only [Option.some.injEq, Prod.mk.injEq, reduceCtorEq] at hq
      rename_i e1 e2 e3 es l he hem
      obtain ⟨rfl, rfl, rfl⟩ := hq
      have hvx := ev_vr hS hx
      generalize hex : a.eval x = rx at hvx
      obtain ⟨ds, hus, hso⟩ := (hP.ok _ _ hsrc).und
      obtain ⟨dd, hud, hdo⟩ := (hP.ok _ _ hd).und
      obtain ⟨de, hue, heo⟩ := (hP.ok _ _ he).und
      cases dd <;> first | exact (Bool.false_ne_true hdo).elim | skip
      cases ds <;> first | exact (Bool.false_ne_true hso).elim | skip
      simp only [dOK, beq_iff_eq] at hso
      subst hso
      cases de <;> first | exact (Bool.false_ne_true heo).elim | skip
      simp only [dOK, beq_iff_eq] at heo
      subst heo
      have hr := qStr_run (P := P) hS.mem (elems_sub hs hem) hvx hp hus hue hud
      exact ⟨_, w, m, by simp only [execOp, hex, Sem.run_bind, hr]; rfl, Ext.refl _ _ _, hS.mem, .t _ _ _ (.s _)⟩
  case call cl =>
    obtain ⟨callee, args, tys⟩ := cl
    cases callee <;> simp only [reduceCtorEq] at hq
    rename_i b
    split at hq <;> try cases hq
    rename_i vs hvs
    cases b <;> simp only [still, not_true, qBuiltin, reduceCtorEq] at hq ho
    split at hq <;> try cases hq
    rename_i t t' v1 v2 hty
    obtain ⟨x, y, hx, hv, hv2⟩ := evs_two hS hvs
    have e1 : args = #[x, y] := by apply Array.ext'; simpa using hx
    have e2 : tys = #[t, t'] := by apply Array.ext'; simpa using hty
    subst e1; subst e2
    split at hq
    · rename_i htt
      subst htt
      obtain ⟨r, w', m', hr, h2, h3, h4⟩ := qAppend_sound (P := P) hP hS.mem hs hn hv hv2 hq hp ty
      exact ⟨r, w', m', by simp [execOp, resolve, invoke, builtin, hr], h2, h3, h4⟩
    · obtain ⟨r, w', m', hr, h2, h3, h4⟩ := qGrow_sound (P := P) hP hS.mem hs hn hv hv2 hq hp ty
      exact ⟨r, w', m', by simp [execOp, resolve, invoke, builtin, hr], h2, h3, h4⟩
end
end Go.Proofs.YtgkmhmhbepfiaaaDoor.Pm
set_option linter.all false
namespace Go.Proofs.YtgkmhmhbepfiaaaDoor.Pm
open Go Go.RowKit
section
variable {P : Program} {w w' : World} {c : Ct} {m m' : Mp} {h h' h1 : H} {ti : Nat → Option TI} {tm : Tm} {a : Act}
theorem splice_get {α : Type} (l new : List α) (o : Nat) (hl : o + new.length ≤ l.length) :
    (l.take o ++ new ++ l.drop (o + new.length)).length = l.length ∧
    ∀ j, (l.take o ++ new ++ l.drop (o + new.length))[j]? = if o ≤ j ∧ j < o + new.length then new[j - o]? else l[j]? := by
  refine ⟨by simp; omega, fun j => ?_⟩
  by_cases h1 : j < o
  · rw [if_neg (by omega), List.append_assoc, List.getElem?_append_left (by simp; omega), List.getElem?_take_of_lt h1]
  · by_cases h2 : j < o + new.length
    · rw [if_pos (by omega), List.getElem?_append_left (by simp; omega), List.getElem?_append_right (by simp; omega)]
      congr 1
      simp
      omega
    · rw [if_neg (by omega), List.getElem?_append_right (by simp; omega), List.getElem?_drop]
      congr 1
      simp
      omega
theorem Mem.rewrite (hM : Mem c m h w) {id g : Nat} {b b' : Blk} (hid : h id = some b) (hp : placeB m id b = some g) (hp' : placeB m id b' = some g)
    (hk : ∀ v' z es l, b' = .row v' z es l → ∃ es0 l0, b = .row v' z es0 l0) {w' : World} (hg : w.grownBy w' (some g))
    (hb : Ext m h w m (setH h id b') w' → BlkOK m c.B (setH h id b') w' id b') : Ext m h w m (setH h id b') w' ∧ Mem c m (setH h id b') w' := by
  have hown : place m h id = some g := by simp [place, hid, hp]
  have hsame : ∀ b, b < w.heap.size → place m h id ≠ some b → w'.heap[b]? = w.heap[b]? := fun b hb hne => hg.block b hb (fun e => hne (by rw [hown, e]))
  have he : Ext m h w m (setH h id b') w' := by
    refine ⟨fun i hi => ?_, fun _ _ => rfl, fun i v' z0 es0 l0 hi hh => ?_, fun i v z0 es0 l0 hi hv hrr => ⟨?_, rfl⟩, fun _ h => h, fun b hs => ?_⟩
    · by_cases e : i = id <;> simp [setH, e, hi]
    · by_cases e : i = id
      · subst e
        simp [setH] at hh
        obtain ⟨es1, l1, rfl⟩ := hk _ _ _ _ hh
        exact ⟨v', z0, es1, l1, hid, Nat.le_refl _⟩
      · exact ⟨v', z0, es0, l0, by simpa [setH, e] using hh, Nat.le_refl _⟩
    · by_cases e : i = id
      · subst e
        have hh := rowOf_some hrr
        simp [setH] at hh
        obtain ⟨es1, l1, rfl⟩ := hk _ _ _ _ hh
        exact ⟨es1, l1, by simp [rowOf, hid]⟩
      · exact ⟨es0, l0, by simpa [rowOf, setH, e] using hrr⟩
    · exact hsame b (hM.stlt b hs) (fun e => (hM.place_lt e).2.2 hs)
  have hpl : ∀ i, place m (setH h id b') i = place m h i := fun i => by
    by_cases e : i = id
    · subst e; rw [hown]; simp [place, setH, hp']
    · simp [place, setH, e]
  refine ⟨he, ⟨?_, he.kept hM.kept, fun i b1 hi => ?_, fun i j g hi hj => hM.sep i j g (by rwa [hpl] at hi) (by rwa [hpl] at hj), fun b hs => Nat.lt_of_lt_of_le (hM.stlt b hs) hg.size, hM.stin, hM.softE he, fun b h => ⟨Nat.lt_of_lt_of_le (hM.res b h).1 hg.size, (hM.res b h).2.1, fun i hi => (hM.res b h).2.2.1 i (by rwa [hpl] at hi), (hsame b (hM.res b h).1 ((hM.res b h).2.2.1 _)).trans (hM.res b h).2.2.2⟩⟩⟩
  · refine hM.below.trans ⟨hg.os, hg.tape, hg.output, hg.size, fun b hb => hsame b (Nat.lt_of_lt_of_le hb hM.bsize) (fun e => ?_)⟩
    exact Nat.lt_irrefl _ (Nat.lt_of_lt_of_le hb (hM.place_lt e).2.1)
  · by_cases e : i = id
    · subst e
      simp [setH] at hi
      subst hi
      exact hb he
    · have hi' : h i = some b1 := by simpa [setH, e] using hi
      refine (hM.blk i b1 hi').keep he rfl rfl fun g' hgp => ?_
      have hpg : place m h i = some g' := by unfold place; rw [hi']; exact hgp
      obtain ⟨h2, h3, h4⟩ := hM.place_lt hpg
      exact ⟨h4, hsame g' h2 (fun e' => e (hM.sep i id g' hpg e'))⟩
theorem vr_one {B : Nat} {v : Value} {x : AV} (hr : VR m B h w v x) (h1 : x.one) : v.oneCell' = true := by
  cases hr <;> first | rfl | exact h1.elim | skip
  rename_i hr
  exact one_of_rep hr h1
theorem vr_rep {B : Nat} {v : Value} {x : AV} {q : T × Bool} (hq : x.plain = some q) (hr : VR m B h w v x) : Rep w (m.ok B q.2) v q.1 := by
  cases hr <;> simp only [AV.plain, Option.some.injEq, reduceCtorEq] at hq <;> subst hq
  · assumption
  · exact Rep.nilslice _
  · exact Rep.nilslice _
theorem grown_setRow (w : World) (g : Nat) (cs : Array Value) : w.grownBy (w.setRow g cs) (some g) :=
  ⟨rfl, rfl, rfl, by simp, fun b _ hne => setRow_other w g b cs (fun e => hne (by rw [e]))⟩
theorem run_storeAt {t : Nat} {i : TI} (hT : TIr P t i) (g o : Nat) (v : Value) (cur : Array Value) (te : TypeId) (hg : w.heap[g]? = some (.cells cur te (0, 0))) (hz : v.cells.size = i.sz) (hfit : o + v.cells.size ≤ cur.size)
    (h1 : ∀ u ∈ v.cells.toList, u.oneCell' = true) :
    (Instr.storeAt t (.pointer (some ⟨g, o, none⟩)) v).run P w = .ok () (w.setRow g (cur.toList.take o ++ v.cells.toList ++ cur.toList.drop (o + v.cells.toList.length)).toArray) := by
  have hst := run_storeCells_at P g o te v.cells.toList 0 cur w hg (by simpa using hfit) h1
  simp only [Nat.add_zero] at hst
  simp [Instr.storeAt, Instr.sureAddr, storeVar, hT.run_size, hz, hst]
theorem cells_one {B : Nat} {cs : List AV} {vs : Array Value} (hl : vs.size = cs.length) (hv : ∀ (j : Nat) (u : Value) (x : AV), vs[j]? = some u → cs[j]? = some x → VR m B h w u x) (h1 : ∀ v ∈ cs, v.one) : ∀ u ∈ vs.toList, u.oneCell' = true := fun u hu => by
  obtain ⟨j, hj⟩ := List.getElem?_of_mem hu
  have hlt := (List.getElem?_eq_some_iff.1 hj).1
  obtain ⟨x, hx⟩ := list_get (l := cs) (j := j) (by simp at hlt; omega)
  exact vr_one (hv j u x (by simpa using hj) hx) (h1 x (List.mem_of_getElem? hx))
theorem lk_lt {hp : List Blk} {id : Nat} {b : Blk} (h : lk hp id = some b) : id < hp.length := (List.getElem?_eq_some_iff.1 h).1
theorem lk_set {hp : List Blk} {id : Nat} {b0 : Blk} (h : lk hp id = some b0) (b : Blk) : lk (hp.set id b) = setH (lk hp) id b := by
  funext i
  have hlt := lk_lt h
  by_cases e : i = id
  · subst e; simp [lk, setH, hlt]
  · simp [lk, setH, e, Ne.symm e]
theorem var_written (hM : Mem c m h w) {id off : Nat} {old cs : List AV} (hid : h id = some (.var old)) {vs : Array Value} (hl : vs.size = cs.length) (hv : ∀ (j : Nat) (u : Value) (x : AV), vs[j]? = some u → cs[j]? = some x → VR m c.B h w u x)
    (hfit : off + cs.length ≤ old.length) {cur : Array Value} {te : TypeId} (hg : w.heap[m.φ id]? = some (.cells cur te (0, 0))) :
    Ext m h w m (setH h id (.var (setAt old off cs))) (w.setRow (m.φ id) (cur.toList.take off ++ vs.toList ++ cur.toList.drop (off + vs.toList.length)).toArray) ∧
    Mem c m (setH h id (.var (setAt old off cs))) (w.setRow (m.φ id) (cur.toList.take off ++ vs.toList ++ cur.toList.drop (off + vs.toList.length)).toArray) := by
  obtain ⟨b1, b2, rcs, tt, b3, b4, b5⟩ := hM.blk _ _ hid
  rw [hg] at b3
  simp only [Option.some.injEq, Obj.cells.injEq] at b3
  obtain ⟨rfl, rfl, _⟩ := b3
  refine hM.rewrite hid rfl rfl (fun _ _ _ _ e => by cases e) (grown_setRow w _ _) fun he => ?_
  obtain ⟨s1, s2⟩ := splice_get cur.toList vs.toList off (by simp; omega)
  obtain ⟨t1, t2⟩ := setAt_get old off cs hfit
  refine ⟨b1, b2, _, _, setRow_heap w _ _ _ _ _ hg, by simp only [List.size_toArray]; rw [s1, t1]; simpa using b4, fun j u x hu hx => ?_⟩
  rw [t2 j] at hx
  simp only [List.getElem?_toArray] at hu
  rw [s2 j] at hu
  by_cases hj : off ≤ j ∧ j < off + cs.length
  · rw [if_pos hj] at hx
    rw [if_pos (by simp; omega)] at hu
    exact (hv _ u x (by simpa using hu) hx).mono he
  · rw [if_neg hj] at hx
    rw [if_neg (by simp; omega)] at hu
    exact (b5 j u x (by simpa using hu) hx).mono he
theorem qStore_sound (hP : TIok P ti) (hM : Mem c m h w) {t : Nat} {p u : AV} {rp ru : Value} (hvp : VR m c.B h w rp p) (hvu : VR m c.B h w ru u)
    {pr : Prop} {i : Nat} {b : Blk} (hq : qStore ti h t p u = some (pr, i, b)) (hp : pr) :
    (h i).isSome = true ∧ ∃ w', (Instr.storeAt t rp ru).run P w = .ok () w' ∧ Ext m h w m (setH h i b) w' ∧ Mem c m (setH h i b) w' := by
  unfold qStore at hq
  split at hq <;> try cases hq
  rename_i i cs hti hcs
  have hT := hP.ok _ _ hti
  obtain ⟨hcl, hcv⟩ := cells_vr hcs hvu
  split at hq <;> try cases hq
  · rename_i id off
    split at hq <;> simp only [Option.some.injEq, Prod.mk.injEq, reduceCtorEq] at hq
    rename_i old hvar
    obtain ⟨rfl, rfl, rfl⟩ := hq
    obtain ⟨h0, h1, h2, h3⟩ := hp
    have hid : h id = some (.var old) := by
      unfold varOf at hvar
      split at hvar <;> simp only [Option.some.injEq, reduceCtorEq] at hvar
      rename_i hh
      rw [hh, hvar]
    obtain ⟨b1, b2, rcs, tt, b3, b4, b5⟩ := hM.blk _ _ hid
    obtain ⟨e1, M1⟩ := var_written hM hid hcl hcv h3 b3
    cases hvp
    exact ⟨by rw [hid]; rfl, _, run_storeAt hT _ off ru rcs tt b3 (by omega) (by omega) (cells_one hcl hcv h2), e1, M1⟩
  · rename_i id ver k j
    split at hq <;> simp only [Option.some.injEq, Prod.mk.injEq, reduceCtorEq] at hq
    rename_i z es l ys l' hrow hpl
    obtain ⟨rfl, rfl, rfl⟩ := hq
    obtain ⟨h0, h1, h2, h3, h4⟩ := hp
    obtain ⟨e, he⟩ := Option.isSome_iff_exists.1 h3
    rw [he] at h4 ⊢
    simp only [Option.getD_some] at h4 ⊢
    have hid := rowOf_some hrow
    obtain ⟨b1, b2, b3, b4⟩ := hM.blk _ _ hid
    have hk := (List.getElem?_eq_some_iff.1 he).1
    have hpos : 0 < (m.ψ id).2 := by omega
    obtain ⟨g1, g2, rcs, tt, g3, g4, g5⟩ := b4 hpos
    obtain ⟨pl, pg⟩ := plains_get hpl
    simp only at pl
    have hez := b3 k e he
    have hfit : k * z + j + cs.length ≤ rcs.size := by
      have h5 : (k + 1) * z ≤ (m.ψ id).2 * z := Nat.mul_le_mul_right _ (by omega)
      rw [Nat.add_mul] at h5
      omega
    cases hvp with
    | eptr _ _ _ _ ad hids hver hra =>
      have had := hra _ _ _ hrow
      rw [add_lit, Nat.zero_add] at had
      subst had
      have hrun := run_storeAt (w := w) hT (m.ψ id).1 (k * z + j) ru rcs tt g3 (by omega) (by omega) (cells_one hcl hcv h2)
      obtain ⟨s1, s2⟩ := splice_get rcs.toList ru.cells.toList (k * z + j) (by simp; omega)
      obtain ⟨t1, t2⟩ := splice_get e ys j (by omega)
      have key := hM.rewrite hid (g := (m.ψ id).1) (by simp [placeB, hpos]) (b' := .row ver z (es.set k (setT e j ys)) (l && l')) (by simp [placeB, hpos])
        (fun _ _ _ _ e => by cases e; exact ⟨_, _, rfl⟩) (grown_setRow w (m.ψ id).1 (rcs.toList.take (k * z + j) ++ ru.cells.toList ++ rcs.toList.drop (k * z + j + ru.cells.toList.length)).toArray) fun hext => by
        refine ⟨by simpa using b1, by simpa using b2, fun i e' he' => ?_, fun _ => ⟨g1, g2, _, tt, setRow_heap w _ _ _ _ _ g3, by simp only [List.size_toArray]; rw [s1]; simpa using g4, fun i q e' y he' hy => ?_⟩⟩
        · by_cases hik : i = k
          · subst hik
            rw [List.getElem?_set_self hk] at he'
            simp only [Option.some.injEq] at he'
            subst he'
            unfold setT
            rw [t1, hez]
          · rw [List.getElem?_set_ne (Ne.symm hik)] at he'
            exact b3 i e' he'
        · have hmono : ∀ {v : Value} {b : Bool}, ((l && l') = true → b = true) → Rep w (m.ok c.B b) v y → Rep (w.setRow (m.ψ id).1 (rcs.toList.take (k * z + j) ++ ru.cells.toList ++ rcs.toList.drop (k * z + j + ru.cells.toList.length)).toArray) (m.ok c.B (l && l')) v y :=
            fun hb hr => hr.mono (fun b hb' => ⟨hb'.1, fun e => hb'.2 (hb e)⟩) (fun b hb' => setRow_other w _ _ _ (fun e => g2 (by rw [← e]; exact hb'.1)))
          simp only [List.getElem?_toArray]
          by_cases hik : i = k
          · subst hik
            rw [List.getElem?_set_self hk] at he'
            simp only [Option.some.injEq] at he'
            subst he'
            unfold setT at hy
            rw [t2 q] at hy
            rw [s2]
            by_cases hq : j ≤ q ∧ q < j + ys.length
            · rw [if_pos hq] at hy
              have hlt : q - j < cs.length := by omega
              obtain ⟨u1, hu1⟩ := list_get hlt
              obtain ⟨pq, hpq, hpy, hpl'⟩ := pg _ _ hu1
              rw [hy] at hpy
              simp only [Option.some.injEq] at hpy
              obtain ⟨v1, hv1⟩ : ∃ v1, ru.cells[q - j]? = some v1 := ⟨ru.cells[q - j]'(by omega), by simp⟩
              refine ⟨v1, ?_, ?_⟩
              · rw [if_pos (by simp; omega)]
                rw [show i * z + q - (i * z + j) = q - j by omega]
                simpa using hv1
              · have := vr_rep hpq (hcv _ _ _ hv1 hu1)
                rw [← hpy] at this
                exact hmono (by simp; intro _ hh; exact hpl' hh) this
            · rw [if_neg hq] at hy
              obtain ⟨vv, hv1, hv2⟩ := g5 i q e y he hy
              refine ⟨vv, ?_, hmono (by simp; intro hh _; exact hh) hv2⟩
              rw [if_neg (by simp; omega)]
              simpa using hv1
          · rw [List.getElem?_set_ne (Ne.symm hik)] at he'
            obtain ⟨vv, hv1, hv2⟩ := g5 i q e' y he' hy
            refine ⟨vv, ?_, hmono (by simp; intro hh _; exact hh) hv2⟩
            have hqz : q < z := by have := (List.getElem?_eq_some_iff.1 hy).1; rw [b3 i e' he'] at this; exact this
            rw [s2, if_neg]
            · simpa using hv1
            · simp only [Array.length_toList]
              rintro ⟨c1, c2⟩
              rcases Nat.lt_or_gt_of_ne hik with h | h
              · have : (i + 1) * z ≤ k * z := Nat.mul_le_mul_right _ h
                rw [Nat.add_mul] at this
                omega
              · have : (k + 1) * z ≤ i * z := Nat.mul_le_mul_right _ h
                rw [Nat.add_mul] at this
                omega
      exact ⟨by rw [hid]; rfl, _, hrun, key.1, key.2⟩
theorem flatten_get {α : Type} {z : Nat} (h0 : 0 < z) : ∀ (xs : List (List α)), (∀ e ∈ xs, e.length = z) → xs.flatten.length = xs.length * z ∧ ∀ (j : Nat) (x : α), xs.flatten[j]? = some x → ∃ e, xs[j / z]? = some e ∧ e[j % z]? = some x
  | [], _ => by simp
  | e :: xs, hz => by
    obtain ⟨h1, h2⟩ := flatten_get h0 xs (fun e he => hz e (List.mem_cons_of_mem _ he))
    have he := hz e (List.mem_cons_self ..)
    refine ⟨by simp [h1, he, Nat.add_mul]; omega, fun j x hx => ?_⟩
    rw [List.flatten_cons] at hx
    by_cases hj : j < z
    · rw [List.getElem?_append_left (by omega)] at hx
      exact ⟨e, by rw [Nat.div_eq_of_lt hj]; rfl, by rw [Nat.mod_eq_of_lt hj]; exact hx⟩
    · rw [List.getElem?_append_right (by omega), he] at hx
      obtain ⟨e', he', hx'⟩ := h2 _ _ hx
      have hd : j / z = (j - z) / z + 1 := by rw [Nat.div_eq_sub_div h0 (by omega)]
      have hm : j % z = (j - z) % z := by rw [Nat.mod_eq_sub_mod (by omega)]
      exact ⟨e', by rw [hd]; simpa using he', by rw [hm]; exact hx'⟩
theorem qCopy_sound (hP : TIok P ti) (hM : Mem c m h w) {t t' : Nat} {p u : AV} {rp ru : Value} (hvp : VR m c.B h w rp p) (hvu : VR m c.B h w ru u)
    {pr : Prop} {v : AV} {i' : Nat} {b : Blk} (hq : qCopy ti h t p u = some (pr, v, i', b)) (hp : pr) (ty : TypeId) :
    ∃ n : Nat, v = .t (.i .i64 n) true ∧ (h i').isSome = true ∧ ∃ w', (Builtin.copy_ #[t, t'] ty #[rp, ru]).run P w = .ok (.int .i64 n) w' ∧ Ext m h w m (setH h i' b) w' ∧ Mem c m (setH h i' b) w' := by
  unfold qCopy at hq
  split at hq <;> try cases hq
  rename_i id off len z xs l i hel hi
  split at hq <;> simp only [Option.some.injEq, Prod.mk.injEq, reduceCtorEq] at hq
  rename_i old hvar
  obtain ⟨rfl, rfl, rfl, rfl⟩ := hq
  obtain ⟨rfl, h0, h1, hok⟩ := hp
  obtain ⟨et, hut, hT⟩ := elemOfS_some hP hi
  have hid : h id = some (.var old) := by
    unfold varOf at hvar
    split at hvar <;> simp only [Option.some.injEq, reduceCtorEq] at hvar
    rename_i hh
    rw [hh, hvar]
  obtain ⟨b1, b2, rcs, tt, b3, b4, b5⟩ := hM.blk _ _ hid
  obtain ⟨A', k, rfl, hr1, news, hnl, hnews, hnr⟩ := elems_cells hM hel hvu i.sz (okEs_len hok) h0
  simp only at hnl hnews hnr hr1
  cases hvp with
  | vs _ _ _ _ cap A hids hc hA =>
    have hmin : Nat.min xs.length len = min xs.length len := rfl
    refine ⟨min xs.length len, rfl, by rw [hid]; rfl, ?_⟩
    rcases Nat.eq_zero_or_pos (min xs.length len) with hz | hpos
    · have hset : setAt old off [] = old := by simp [setAt]
      rw [hz]
      simp only [List.take_zero, List.flatten_nil, List.map_nil, hset]
      have hsame : setH h id (.var old) = h := by
        funext j
        by_cases e : j = id
        · subst e; simp [setH, hid]
        · simp [setH, e]
      rw [hsame]
      refine ⟨w, ?_, Ext.refl _ _ _, hM⟩
      have hf : (Builtin.firstCells i.sz 0 (.slice A' xs.length k)).run P w = .ok #[] w := by
        cases A' with
        | none => exact run_firstCells_none ..
        | some ad => exact run_firstCells_some (P := P) w i.sz 0 ad xs.length k [] (by simp) (by simp)
      cases A <;> simp [Builtin.copy_, run_underlying hut, Builtin.lenOf, hmin, hz, hT.run_size, hf, storeCells, goInt]
    · have hxl : 0 < xs.length := by omega
      obtain ⟨ad, rfl, hcell⟩ := hnews hxl
      obtain rfl := hA (by omega)
      have htl : (news.take (min xs.length len * i.sz)).length = min xs.length len * i.sz := by
        rw [List.length_take, hnl]
        exact Nat.min_eq_left (Nat.mul_le_mul_right _ (Nat.min_le_left _ _))
      have hf := run_firstCells_some (P := P) w i.sz (min xs.length len) ad xs.length k (news.take (min xs.length len * i.sz)) htl (fun j v hj => by
        have hjl := (List.getElem?_eq_some_iff.1 hj).1
        rw [htl] at hjl
        rw [List.getElem?_take_of_lt hjl] at hj
        exact hcell j v hj)
      obtain ⟨f1, f2⟩ := flatten_get h0 (xs.take (min xs.length len)) (fun e he => okEs_len hok e (List.mem_of_mem_take he))
      have hfl : ((xs.take (min xs.length len)).flatten.map (AV.t · l)).length = min xs.length len * i.sz := by
        rw [List.length_map, f1, List.length_take, Nat.min_eq_left (Nat.min_le_left _ _)]
      have hle : min xs.length len * i.sz ≤ len * i.sz := Nat.mul_le_mul_right _ (Nat.min_le_right _ _)
      obtain ⟨e1, M1⟩ := var_written hM hid (off := off) (cs := (xs.take (min xs.length len)).flatten.map (AV.t · l)) (vs := (news.take (min xs.length len * i.sz)).toArray) (by rw [hfl]; simpa using htl) (fun j u x hu hx => by
        rw [List.getElem?_map] at hx
        simp only [Option.map_eq_some_iff] at hx
        obtain ⟨y, hy, rfl⟩ := hx
        obtain ⟨e, he, hye⟩ := f2 j y hy
        have hjl := (List.getElem?_eq_some_iff.1 hy).1
        rw [f1] at hjl
        have hdj : j / i.sz < min xs.length len := by
          have := (List.getElem?_eq_some_iff.1 he).1
          rw [List.length_take] at this
          omega
        rw [List.getElem?_take_of_lt hdj] at he
        obtain ⟨v, hv, hrep⟩ := hnr _ _ _ _ he hye
        rw [Nat.mul_comm, Nat.div_add_mod] at hv
        simp only [List.getElem?_toArray] at hu
        have hjl2 := (List.getElem?_eq_some_iff.1 hu).1
        rw [htl] at hjl2
        rw [List.getElem?_take_of_lt hjl2, hv] at hu
        simp only [Option.some.injEq] at hu
        subst hu
        exact .t _ _ _ hrep) (by rw [hfl]; omega) b3
      have hst := run_storeCells_at P (m.φ id) off tt (news.take (min xs.length len * i.sz)) 0 rcs w b3 (by rw [htl]; omega) (fun u hu => news_one hok h0 hnl hnr u (List.mem_of_mem_take hu))
      simp only [Nat.add_zero] at hst
      refine ⟨_, ?_, e1, M1⟩
      simp [Builtin.copy_, run_underlying hut, Builtin.lenOf, hmin, hT.run_size, hf, hst, goInt]
theorem qw_sound (hP : TIok P ti) {tm : Tm} {a : Act} (hS : Sat c m h tm a w) {o : Oper} (hd : ∀ t, o.dst = some t → t < c.n) {pr : Prop} {v : Option AV} {id : Nat} {b : Blk} (hq : qw ti tm h o.dst o.op = some (pr, v, id, b)) (hp : pr) :
    (h id).isSome = true ∧ ∃ nx w', (execOp a.eval o).run P w = .ok nx w' ∧
      ((nx = .skip ∧ Sat c m (setH h id b) (pt tm o.dst v) (a.put o.dst undef) w') ∨ ∃ u, nx = .value u ∧ Sat c m (setH h id b) (pt tm o.dst v) (a.put o.dst u) w') := by
  obtain ⟨dst, op, ty, pos, after, guard⟩ := o
  simp only at hq hd ⊢
  cases op <;> simp only [qw, reduceCtorEq] at hq
  case store t x y =>
    split at hq <;> try cases hq
    rename_i p u hx hy
    split at hq <;> simp only [Option.some.injEq, Prod.mk.injEq, reduceCtorEq] at hq
    rename_i hqs
    obtain ⟨rfl, rfl, rfl, rfl⟩ := hq
    obtain ⟨hi, w', hr, he, hM⟩ := qStore_sound hP hS.mem (ev_vr hS hx) (ev_vr hS hy) hqs hp
    exact ⟨hi, .skip, w', by simp [execOp, hr], .inl ⟨rfl, hS.of_mem he hM⟩⟩
  case call cl =>
    obtain ⟨callee, args, tys⟩ := cl
    split at hq <;> try cases hq
    rename_i p u t t' hcal hvs hty
    simp only at hcal hvs hty
    subst hcal
    split at hq <;> simp only [Option.some.injEq, Prod.mk.injEq, reduceCtorEq] at hq
    rename_i hqc
    obtain ⟨rfl, rfl, rfl, rfl⟩ := hq
    obtain ⟨x, y, hx, hv, hv2⟩ := evs_two hS hvs
    have e1 : args = #[x, y] := by apply Array.ext'; simpa using hx
    have e2 : tys = #[t, t'] := by apply Array.ext'; simpa using hty
    subst e1; subst e2
    obtain ⟨n, rfl, hi, w', hr, he, hM⟩ := qCopy_sound (P := P) (t' := t') hP hS.mem hv hv2 hqc hp ty
    exact ⟨hi, .value (.int .i64 n), w', by simp [execOp, resolve, invoke, builtin, hr], .inr ⟨_, rfl, (hS.of_mem he hM).put dst hd (.t _ _ _ (.i _ _))⟩⟩
theorem emb_row {id ver off len : Nat} {y : T} {l : Bool} {us : List (Nat × Blk)} (he : emb h (.row id ver off len) = some (y, l, us)) : us = [(id, .gone)] ∧ (h id).isSome = true := by
  simp only [emb] at he
  split at he <;> try cases he
  rename_i hr
  split at he <;> simp only [Option.some.injEq, Prod.mk.injEq, reduceCtorEq] at he
  exact ⟨he.2.2.symm, by rw [rowOf_some hr]; rfl⟩
theorem qst_sound {x : Cx} {s s' : S} {tm : Tm} {a : Act} (hP : TIok P x.ti) (hS : Sat c m (lk s.hp) s.tm a w) {o : Oper} (hd : ∀ t, o.dst = some t → t < c.n) {pr : Prop} (hq : qst x s o.dst o.op = some (pr, s')) (hp : pr) :
    ∃ nx w' m', (execOp a.eval o).run P w = .ok nx w' ∧
      ((nx = .skip ∧ Sat c m' (lk s'.hp) s'.tm (a.put o.dst undef) w') ∨ ∃ v, nx = .value v ∧ Sat c m' (lk s'.hp) s'.tm (a.put o.dst v) w') := by
  unfold qst at hq
  split at hq
  · simp only [Option.some.injEq, Prod.mk.injEq] at hq
    rename_i p v id b hqw
    obtain ⟨rfl, rfl⟩ := hq
    obtain ⟨hi, nx, w', h1, h2⟩ := qw_sound hP hS hd hqw hp
    obtain ⟨b0, hb0⟩ := Option.isSome_iff_exists.1 hi
    rw [← lk_set hb0] at h2
    exact ⟨nx, w', m, h1, h2⟩
  · rename_i hno
    clear hd hno
    obtain ⟨dst, op, ty, pos, after, guard⟩ := o
    simp only at hq ⊢
    cases op <;> simp only [qEmSt, reduceCtorEq] at hq
    rename_i t x' y'
    split at hq <;> try cases hq
    rename_i p id ver off len hx hy
    split at hq <;> try cases hq
    rename_i y l us he
    split at hq <;> simp only [Option.some.injEq, Prod.mk.injEq, reduceCtorEq] at hq
    rename_i c0 i k hqs
    obtain ⟨rfl, rfl⟩ := hq
    obtain ⟨hus, hid⟩ := emb_row he
    obtain ⟨ids, hids, hidk, hrep⟩ := emb_rep hS.mem he (ev_vr hS hy)
    simp only at hids hrep
    rw [hus] at hids
    obtain ⟨st', e1, M1, hst1, hst2⟩ := goesAll ids hS.mem (fun i hi => .inl (hidk i hi))
    rw [← hids] at e1 M1
    obtain ⟨b0, hb0⟩ := Option.isSome_iff_exists.1 hid
    have eU : uH (lk s.hp) [(id, Blk.gone)] = lk (s.hp.set id .gone) := (lk_set hb0 .gone).symm
    rw [eU] at e1 M1
    have hS1 := hS.of_mem e1 M1
    have hv : VR { m with st := st' } c.B (lk (s.hp.set id .gone)) w (a.eval y') (.t y l) := .t _ _ _ (hrep.mono (fun b hb => by
      refine ⟨?_, hb.2⟩
      rcases hb.1 with hb1 | ⟨i, hi, hpos, rfl⟩
      · exact hst1 _ hb1
      · obtain ⟨ver, z, es, l, hh⟩ := hidk i hi
        exact hst2 i hi _ _ _ _ hh hpos) (fun _ _ => rfl))
    obtain ⟨hi, w', hr, he2, hM⟩ := qStore_sound hP M1 (ev_vr hS1 hx) hv hqs hp
    obtain ⟨b1, hb1⟩ := Option.isSome_iff_exists.1 hi
    rw [← lk_set hb1] at he2 hM
    exact ⟨.skip, w', _, by simp [execOp, hr], .inl ⟨rfl, hS1.of_mem he2 hM⟩⟩
end
end Go.Proofs.YtgkmhmhbepfiaaaDoor.Pm
set_option linter.all false
namespace Go.Proofs.YtgkmhmhbepfiaaaDoor.Pm
open Go Go.RowKit
def ok1 : AV → Bool
  | .t .. | .nl | .e0 | .row .. => true
  | _ => false
def ok2 : AV → Bool
  | .agg cs => cs.all ok1
  | v => ok1 v
def ok3 : AV → Bool
  | .tup us => us.all ok2
  | v => ok2 v
structure Spec (P : Program) (f : Nat) (ts : List T) (bs : List Blk) (r : AV) : Prop where
  form : ok3 r = true
  rows : ∀ b ∈ bs, ∃ z es l, b = .row 0 z es l
  body : ∃ fn c, P.funcs[f]? = some fn ∧ fn.body = some c ∧ fn.name ≠ "runtime.NumGoroutine"
  run : ∀ (w : World) (B : Nat → Prop) (args : Array Value), (∀ b, B b → b < w.heap.size) → ∀ hG : GlobOK w B, args.size = ts.length → (∀ (j : Nat) (v : Value) (x : T), args[j]? = some v → ts[j]? = some x → Rep w B v x) →
    Calls P f args w fun
      | .returned v, w' => ∃ m, Mem ⟨P, w, B, 0, w.heap.size, Nat.le_refl _, hG, fun _ => False, w⟩ m (lk bs) w' ∧ VR m w.heap.size (lk bs) w' v r
      | _, _ => False
section
variable {P : Program} {w w' : World} {c : Ct} {m m' m1 : Mp} {h h' h1 : H} {ti : Nat → Option TI} {tm : Tm} {a : Act}
def lead (m : Mp) (w : World) (l : Bool) : Nat → Prop := fun b => b < w.heap.size ∧ (l = false → m.st b)
theorem glob_in {B : Nat → Prop} (hM : Mem c m h w) (hB : ∀ b, c.st b → B b) : GlobOK w B := fun g cs hg => (c.hG g cs hg).mono hB (fun b hb => (hM.kept b hb).2)
theorem cell_lt {ad : Addr} {v : Value} (hc : w.cell? ad = some v) : ad.block < w.heap.size := by
  rcases Nat.lt_or_ge ad.block w.heap.size with h | h
  · exact h
  · simp [World.cell?, Array.getElem?_eq_none h] at hc
theorem rep_st (hM : Mem c m h w) {l l' : Bool} {v : Value} {x : T} (hr : Rep w (m.ok c.B l) v x) : Rep w (lead m w l') v x :=
  hr.mono (fun b hb => ⟨hM.stlt b hb.1, fun _ => hb.1⟩) (fun _ _ => rfl)
theorem arg1_rep (hM : Mem c m h w) {v : AV} {y : T} (ha : arg1 h v y) {rv : Value} (hv : VR m c.B h w rv v) : Rep w (lead m w v.loose) rv y := by
  cases v <;> simp only [arg1] at ha
  case t x l => subst ha; cases hv with | t _ _ _ hr => exact rep_st hM hr
  case nl =>
    cases hv
    rcases ha with rfl | rfl
    · exact Rep.nilslice _
    · exact .nl
  case e0 => subst ha; cases hv; exact Rep.nilslice _
  case row id ver off len =>
    obtain ⟨p, hp, rfl⟩ := ha
    simp only [elems] at hp
    split at hp <;> try cases hp
    rename_i z es l hr
    split at hp <;> simp only [Option.some.injEq, reduceCtorEq] at hp
    rename_i hl
    subst hp
    refine (row_rep hM hv hr hl).mono (fun b hb => ⟨?_, fun e => by simp [AV.loose] at e⟩) (fun _ _ => rfl)
    rcases hb.1 with h1 | ⟨h1, rfl⟩
    · exact hM.stlt b h1
    · have hid := rowOf_some hr
      exact (hM.place_lt (id := id) (g := (m.ψ id).1) (by simp [place, hid, placeB, h1])).1
  case vs id off len z =>
    obtain ⟨p, hp, h0, hz, rfl⟩ := ha
    obtain ⟨A, k, rfl, hr1, news, hnl, hnews, hnr⟩ := elems_cells hM hp hv z hz h0
    have hle : p.1.length ≤ k := by
      generalize p.1.length = q at hv
      cases hv with
      | vs _ _ _ _ _ _ _ hc _ => exact hc
    refine .sl A p.1.length k p.1 z (fun i j => (news[i * z + j]?).getD undef) rfl hle hr1 (fun e => by
      generalize p.1.length = q at hv
      cases hv with
      | vs _ _ _ _ _ _ _ hc hA =>
        rcases Nat.eq_zero_or_pos k with h | h
        · exact h
        · rw [hA h] at e; cases e) (fun i e he => hz e (List.mem_of_getElem? he)) (fun hpos => ?_) fun i j e x he hx => ?_
    · obtain ⟨ad, rfl, hcell⟩ := hnews hpos
      have hall : ∀ i j, i < p.1.length → j < z → w.cell? (ad.add (i * z + j)) = some ((news[i * z + j]?).getD undef) := fun i j hi hj => by
        have hlt : i * z + j < news.length := by
          rw [hnl]
          have : (i + 1) * z ≤ p.1.length * z := Nat.mul_le_mul_right _ hi
          rw [Nat.add_mul] at this
          omega
        rw [List.getElem?_eq_getElem hlt, Option.getD_some]
        exact hcell _ _ (List.getElem?_eq_getElem hlt)
      refine ⟨ad, rfl, ⟨?_, fun e => by simp [AV.loose] at e⟩, hall⟩
      have := cell_lt (hall 0 0 hpos h0)
      rwa [block_add] at this
    · obtain ⟨v, hv1, hv2⟩ := hnr i j e x he hx
      simp only [hv1, Option.getD_some]
      exact rep_st hM hv2
  case ptr id off =>
    obtain ⟨cs, p, hcs, hp, rfl⟩ := ha
    have hid : h id = some (.var cs) := by
      unfold varOf at hcs
      split at hcs <;> simp only [Option.some.injEq, reduceCtorEq] at hcs
      rename_i hh
      rw [hh, hcs]
    obtain ⟨b1, b2, rcs, tt, b3, b4, b5⟩ := hM.blk _ _ hid
    obtain ⟨pl, pg⟩ := plains_get hp
    cases hv
    have hlen : p.1.length = cs.length - off := by rw [← pl]; simp
    refine .pt _ p.1 (fun j => (rcs[off + j]?).getD undef) ⟨?_, fun e => by simp [AV.loose] at e⟩ (fun j hj => ?_) fun j x hx => ?_
    · exact (hM.place_lt (id := id) (g := m.φ id) (by simp [place, hid, placeB])).1
    · have hlt : off + j < rcs.size := by omega
      rw [add_lit, cell_lit b3]
      simp [hlt]
    · have hj := (List.getElem?_eq_some_iff.1 hx).1
      obtain ⟨u, hu⟩ := list_get (l := cs.drop off) (j := j) (by simp; omega)
      obtain ⟨q, hq, hq1, _⟩ := pg _ _ hu
      rw [hx] at hq1
      simp only [Option.some.injEq] at hq1
      have hlt : off + j < rcs.size := by omega
      have hrv : rcs[off + j]? = some rcs[off + j] := by simp [hlt]
      rw [List.getElem?_drop] at hu
      simp only [hrv, Option.getD_some]
      have := vr_rep hq (b5 _ _ _ hrv hu)
      rw [← hq1] at this
      exact rep_st hM this
theorem lead_mono {l l' : Bool} (hl : l' = false → l = false) {v : Value} {x : T} (hr : Rep w (lead m w l) v x) : Rep w (lead m w l') v x :=
  hr.mono (fun b hb => ⟨hb.1, fun e => hb.2 (hl e)⟩) (fun _ _ => rfl)
theorem argCs_get : ∀ {cs : List AV} {p : List T}, argCs h cs p → cs.length = p.length ∧ ∀ (j : Nat) (v : AV) (y : T), cs[j]? = some v → p[j]? = some y → arg1 h v y
  | [], p, ha => by simp [argCs] at ha; subst ha; simp
  | v :: vs, p, ha => by
    obtain ⟨y, ys, rfl, h1, h2⟩ := ha
    obtain ⟨hl, hg⟩ := argCs_get h2
    refine ⟨by simp [hl], fun j u z hu hz => ?_⟩
    cases j with
    | zero => simp at hu hz; subst hu; subst hz; exact h1
    | succ j => exact hg j u z (by simpa using hu) (by simpa using hz)
theorem argsOK_get : ∀ {cs : List AV} {p : List T}, argsOK h cs p → cs.length = p.length ∧ ∀ (j : Nat) (v : AV) (y : T), cs[j]? = some v → p[j]? = some y → argOK h v y
  | [], p, ha => by simp [argsOK] at ha; subst ha; simp
  | v :: vs, p, ha => by
    obtain ⟨y, ys, rfl, h1, h2⟩ := ha
    obtain ⟨hl, hg⟩ := argsOK_get h2
    refine ⟨by simp [hl], fun j u z hu hz => ?_⟩
    cases j with
    | zero => simp at hu hz; subst hu; subst hz; exact h1
    | succ j => exact hg j u z (by simpa using hu) (by simpa using hz)
theorem arg_rep (hM : Mem c m h w) {v : AV} {y : T} (ha : argOK h v y) {rv : Value} (hv : VR m c.B h w rv v) : Rep w (lead m w v.loose) rv y := by
  cases v <;> simp only [argOK] at ha <;> try exact arg1_rep hM ha hv
  case fn f cap =>
    obtain ⟨p, rfl, hp⟩ := ha
    obtain ⟨pl, pg⟩ := argCs_get hp
    cases hv with
    | fn _ vs _ hs hvv =>
      refine .fn f vs p (by omega) fun j v x hv hx => ?_
      have hj := (List.getElem?_eq_some_iff.1 hx).1
      obtain ⟨u, hu⟩ := list_get (l := cap) (j := j) (by omega)
      refine lead_mono (fun e => ?_) (arg1_rep hM (pg j u x hu hx) (hvv j v u hv hu))
      simp [AV.loose] at e
      subst e
      simp at hu
  case agg cs =>
    obtain ⟨p, rfl, hp⟩ := ha
    obtain ⟨pl, pg⟩ := argCs_get hp
    cases hv with
    | agg vs _ hs hvv =>
      refine .agg vs p (by omega) fun j v x hv hx => ?_
      have hj := (List.getElem?_eq_some_iff.1 hx).1
      obtain ⟨u, hu⟩ := list_get (l := cs) (j := j) (by omega)
      refine lead_mono (fun e => ?_) (arg1_rep hM (pg j u x hu hx) (hvv j v u hv hu))
      simp only [AV.loose, List.any_eq_false] at e
      have h1 := e u (List.mem_of_getElem? hu)
      have h2 := pg j u x hu hx
      cases u <;> first | rfl | exact h2.elim | exact (h1 rfl).elim
theorem uH_number : ∀ (bs : List Blk) (h : H) (n : Nat), uH h (number n bs) = fun i => if n ≤ i ∧ i < n + bs.length then bs[i - n]? else h i
  | [], h, n => by funext i; simp [number, uH]; omega
  | b :: bs, h, n => by
    rw [number, uH_cons, uH_number bs _ (n + 1)]
    funext i
    by_cases h1 : i = n
    · subst h1; rw [if_neg (by omega)]; simp [setH]
    · by_cases h2 : n < i ∧ i < n + 1 + bs.length
      · rw [if_pos (by omega), if_pos (by simp; omega), show i - n = (i - (n + 1)) + 1 by omega]
        simp
      · rw [if_neg (by omega), if_neg (by simp; omega)]
        simp [setH, h1]
def mrg (m m1 : Mp) (n k N : Nat) : Mp := ⟨fun i => if n ≤ i ∧ i < n + k then m1.φ (i - n) else m.φ i, fun i => if n ≤ i ∧ i < n + k then m1.ψ (i - n) else m.ψ i, fun b => m.st b ∨ (m1.st b ∧ N ≤ b)⟩
theorem rep_bare1 {B : Nat → Prop} {v : Value} {x : T} (hr : Rep w B v x) : Rep w B v x.bare1 := by
  cases x <;> try exact hr
  cases hr with | inn D _ _ _ hr => exact hr.mono (fun b hb => hb.1) (fun _ _ => rfl)
theorem rep_bare {B : Nat → Prop} {v : Value} {x : T} (hr : Rep w B v x) : Rep w B v x.bare := by
  cases x <;> try exact hr
  case inn D x => exact rep_bare1 hr
  case sl es =>
    cases hr with
    | sl A n c _ z vals hn hc hm hz0 hz hA hv =>
      refine .sl A n c _ z vals (by simpa using hn) hc hm hz0 (fun i e he => ?_) hA fun i j e x he hx => ?_
      · rw [List.getElem?_map] at he
        simp only [Option.map_eq_some_iff] at he
        obtain ⟨e0, he0, rfl⟩ := he
        simpa using hz i e0 he0
      · rw [List.getElem?_map] at he
        simp only [Option.map_eq_some_iff] at he
        obtain ⟨e0, he0, rfl⟩ := he
        rw [List.getElem?_map] at hx
        simp only [Option.map_eq_some_iff] at hx
        obtain ⟨x0, hx0, rfl⟩ := hx
        exact rep_bare1 (hv i j e0 x0 he0 hx0)
theorem bares_get {ts0 ts : List T} (hb : bares ts0 ts) : ts0.length = ts.length ∧ ∀ (j : Nat) (x : T), ts[j]? = some x → ∃ x0, ts0[j]? = some x0 ∧ ∀ (w : World) (B : Nat → Prop) (v : Value), Rep w B v x0 → Rep w B v x := by
  rcases hb with rfl | rfl
  · exact ⟨rfl, fun j x hx => ⟨x, hx, fun _ _ _ h => h⟩⟩
  · refine ⟨by simp, fun j x hx => ?_⟩
    rw [List.getElem?_map] at hx
    simp only [Option.map_eq_some_iff] at hx
    obtain ⟨x0, hx0, rfl⟩ := hx
    exact ⟨x0, hx0, fun _ _ _ h => rep_bare h⟩
theorem called_at (hM : Mem c m h w) {n : Nat} {g : Nat} (lo : Bool) {bs : List Blk} {r : AV} (hn : ∀ i, n ≤ i → i < n + bs.length → h i = none) (hform : ok3 r = true) (hrows : ∀ b ∈ bs, ∃ z es l, b = .row 0 z es l)
    (hl : lo = true → r.fresh = true ∧ bs.all Blk.fresh = true) {args : Array Value} {hG : GlobOK w (lead m w lo)}
    (hcall : Calls c.P g args w fun
      | .returned v, w' => ∃ m1, Mem ⟨c.P, w, lead m w lo, 0, w.heap.size, Nat.le_refl _, hG, fun _ => False, w⟩ m1 (lk bs) w' ∧ VR m1 w.heap.size (lk bs) w' v r
      | _, _ => False) :
    Calls c.P g args w fun
      | .returned v, w' => ∃ m', Ext m h w m' (uH h (number n bs)) w' ∧ Mem c m' (uH h (number n bs)) w' ∧ VR m' c.B (uH h (number n bs)) w' v (r.sh n)
      | _, _ => False := by
  refine hcall.mono fun e w' he => ?_
  cases e with
  | panicked _ => exact he
  | outgrown => exact he
  | returned v =>
    obtain ⟨m1, M1, hv⟩ := he
    have hB := M1.below
    simp only at hB
    have hsize : c.B ≤ w.heap.size := hM.bsize
    have hh' := uH_number bs h n
    have hold' : ∀ i b, h i = some b → ¬ (n ≤ i ∧ i < n + bs.length) := fun i b hi hc => by
      rw [hn i hc.1 hc.2] at hi; cases hi
    have hlow : ∀ i, ¬ (n ≤ i ∧ i < n + bs.length) → uH h (number n bs) i = h i := fun i hi => by rw [hh']; simp only; rw [if_neg hi]
    have hold : ∀ i b, h i = some b → uH h (number n bs) i = some b := fun i b hi => by
      rw [hlow i (hold' i b hi)]; exact hi
    have hnew : ∀ k, k < bs.length → uH h (number n bs) (k + n) = lk bs k := fun k hk => by
      rw [hh']
      simp only
      rw [if_pos (by omega)]; simp [lk]
    have hψ : ∀ k, k < bs.length → (mrg m m1 n bs.length w.heap.size).ψ (k + n) = m1.ψ k := fun k hk => by simp only [mrg, if_pos (show n ≤ k + n ∧ k + n < n + bs.length by omega), Nat.add_sub_cancel]
    have hψ0 : ∀ k, ¬ (n ≤ k ∧ k < n + bs.length) → (mrg m m1 n bs.length w.heap.size).ψ k = m.ψ k := fun k hk => by simp only [mrg, if_neg hk]
    have hφ0 : ∀ k, ¬ (n ≤ k ∧ k < n + bs.length) → (mrg m m1 n bs.length w.heap.size).φ k = m.φ k := fun k hk => by simp only [mrg, if_neg hk]
    have hok : ∀ (l : Bool) (b : Nat), (lo = true → l = true) → m1.ok w.heap.size l b → (mrg m m1 n bs.length w.heap.size).ok c.B l b := fun l b hlo hb => by
      rcases Nat.lt_or_ge b w.heap.size with hlt | hge
      · have hst := (M1.stin b hb.1).resolve_right (by simp only; omega)
        have hlf : l = false := by
          cases l
          · rfl
          · have := hb.2 rfl; omega
        have hany : lo = false := by
          cases hany : lo
          · rfl
          · have := hlo hany; rw [hlf] at this; cases this
        exact ⟨.inl (hst.2 hany), fun e => by rw [hlf] at e; cases e⟩
      · exact ⟨.inr ⟨hb.1, hge⟩, fun _ => Nat.le_trans hsize hge⟩
    have hext : Ext m h w (mrg m m1 n bs.length w.heap.size) (uH h (number n bs)) w' := by
      refine ⟨fun id hid => ?_, fun id hid => ?_, fun id v' z es l hid hh => ?_, fun id ver z es l hid hver hh => ?_, fun b hb => .inl hb, fun b hb => hB.block b (hM.stlt b hb)⟩ <;> obtain ⟨b, hb⟩ := Option.isSome_iff_exists.1 hid <;> have hlt := hold' _ _ hb
      · rw [hold _ _ hb]; rfl
      · exact hφ0 _ hlt
      · rw [hlow _ hlt] at hh
        exact ⟨v', z, es, l, hh, Nat.le_refl _⟩
      · have : rowOf h id ver = some (z, es, l) := by simpa only [rowOf, hlow _ hlt] using hh
        exact ⟨⟨es, l, this⟩, hψ0 _ hlt⟩
    have hpl0 : ∀ i, ¬ (n ≤ i ∧ i < n + bs.length) → place (mrg m m1 n bs.length w.heap.size) (uH h (number n bs)) i = place m h i := fun i hi => by
      unfold place
      rw [hlow i hi]
      cases h i with
      | none => rfl
      | some b => cases b <;> simp [placeB, hψ0 i hi, hφ0 i hi]
    have hpl1 : ∀ k, k < bs.length → place (mrg m m1 n bs.length w.heap.size) (uH h (number n bs)) (k + n) = place m1 (lk bs) k := fun k hk => by
      unfold place
      rw [hnew k hk]
      cases hk' : lk bs k with
      | none => rfl
      | some b =>
        obtain ⟨z, es, l, rfl⟩ := hrows b (List.mem_of_getElem? hk')
        simp only [placeB, hψ k hk]
    refine ⟨mrg m m1 n bs.length w.heap.size, hext, ⟨hM.below.trans (hB.mono hsize), hext.kept hM.kept, fun i b hi => ?_, fun i j g hi hj => ?_, fun b hb => ?_, fun b hb => ?_, fun b hb hBb => ?_, fun b hb => ⟨Nat.lt_of_lt_of_le (hM.res b hb).1 hB.size, fun hs => hs.elim (hM.res b hb).2.1 (fun hs => absurd hs.2 (Nat.not_le.2 (hM.res b hb).1)), fun i hi => ?_, (hB.block b (hM.res b hb).1).trans (hM.res b hb).2.2.2⟩⟩, ?_⟩
    · by_cases hin : n ≤ i ∧ i < n + bs.length
      · obtain ⟨k, hk, rfl⟩ : ∃ k, k < bs.length ∧ i = k + n := ⟨i - n, by omega, by omega⟩
        rw [hnew k hk] at hi
        obtain ⟨z, es, l, rfl⟩ := hrows b (List.mem_of_getElem? hi)
        obtain ⟨b1, b2, b3, b4⟩ := M1.blk _ _ hi
        have hlo : lo = true → l = true := fun e => by
          have := (hl e).2
          rw [List.all_eq_true] at this
          exact this _ (List.mem_of_getElem? hi)
        refine ⟨by rw [hψ k hk]; exact b1, b2, b3, fun hpos => ?_⟩
        rw [hψ k hk] at hpos ⊢
        obtain ⟨g1, g2, rcs, tt, g3, g4, g5⟩ := b4 hpos
        simp only at g1
        refine ⟨Nat.le_trans hsize g1, fun hs => ?_, rcs, tt, g3, g4, fun q j e x he hx => ?_⟩
        · rcases hs with hs | hs
          · have := hM.stlt _ hs; omega
          · exact g2 hs.1
        · obtain ⟨v, hv1, hv2⟩ := g5 q j e x he hx
          exact ⟨v, hv1, hv2.mono (fun b hb => hok l b hlo hb) (fun _ _ => rfl)⟩
      · rw [hlow i hin] at hi
        refine (hM.blk i b hi).keep hext (hφ0 i hin) (hψ0 i hin) fun g hg => ?_
        obtain ⟨p1, p2, p3⟩ := hM.place_lt (id := i) (g := g) (by simp [place, hi, hg])
        refine ⟨fun hs => ?_, hB.block g p1⟩
        rcases hs with hs | hs
        · exact p3 hs
        · have h2 := hs.2; omega
    · by_cases hin : n ≤ i ∧ i < n + bs.length <;> by_cases hjn : n ≤ j ∧ j < n + bs.length
      · obtain ⟨k, hk, rfl⟩ : ∃ k, k < bs.length ∧ i = k + n := ⟨i - n, by omega, by omega⟩
        obtain ⟨k', hk', rfl⟩ : ∃ k, k < bs.length ∧ j = k + n := ⟨j - n, by omega, by omega⟩
        rw [hpl1 k hk] at hi; rw [hpl1 k' hk'] at hj
        rw [M1.sep k k' g hi hj]
      · obtain ⟨k, hk, rfl⟩ : ∃ k, k < bs.length ∧ i = k + n := ⟨i - n, by omega, by omega⟩
        rw [hpl0 j hjn] at hj; rw [hpl1 k hk] at hi
        have h1 := (hM.place_lt hj).1
        have h2 := (M1.place_lt hi).2.1
        simp only at h2
        omega
      · obtain ⟨k, hk, rfl⟩ : ∃ k, k < bs.length ∧ j = k + n := ⟨j - n, by omega, by omega⟩
        rw [hpl0 i hin] at hi; rw [hpl1 k hk] at hj
        have h1 := (hM.place_lt hi).1
        have h2 := (M1.place_lt hj).2.1
        simp only at h2
        omega
      · rw [hpl0 i hin] at hi; rw [hpl0 j hjn] at hj; exact hM.sep i j g hi hj
    · rcases hb with hb | hb
      · exact Nat.lt_of_lt_of_le (hM.stlt b hb) hB.size
      · exact M1.stlt b hb.1
    · rcases hb with hb | hb
      · exact hM.stin b hb
      · exact .inr (Nat.le_trans hsize hb.2)
    · rcases hb with hb | hb
      · exact hM.softE hext b hb hBb
      · exact M1.soft b hb.1 (fun h => absurd h.1 (Nat.not_lt.2 hb.2))
    · by_cases hin : n ≤ i ∧ i < n + bs.length
      · obtain ⟨k, hk, rfl⟩ : ∃ k, k < bs.length ∧ i = k + n := ⟨i - n, by omega, by omega⟩
        rw [hpl1 k hk] at hi
        have h2 := (M1.place_lt hi).2.1
        simp only at h2
        exact absurd (hM.res b hb).1 (Nat.not_lt.2 h2)
      · rw [hpl0 i hin] at hi
        exact (hM.res b hb).2.2.1 i hi
    · -- the result
      have one : ∀ (v : Value) (x : AV), ok1 x = true → (lo = true → (match x with | .t _ l => l | _ => true) = true) → VR m1 w.heap.size (lk bs) w' v x → VR (mrg m m1 n bs.length w.heap.size) c.B (uH h (number n bs)) w' v (x.sh1 n) := by
        intro v x hx hf hv
        cases hv <;> simp only [ok1, Bool.false_eq_true] at hx
        case t y l hr => exact .t _ _ _ (hr.mono (fun b hb => hok l b hf hb) (fun _ _ => rfl))
        case nl => exact .nl
        case e0 A => exact .e0 A
        case row id ver off len k A hid hver hc hr =>
          have hk : id < bs.length := by
            obtain ⟨b, hb⟩ := Option.isSome_iff_exists.1 hid
            exact (List.getElem?_eq_some_iff.1 hb).1
          refine .row (id + n) ver off len k A (by rw [hnew id hk]; exact hid) (fun v' z es l hh => hver v' z es l (by rw [← hnew id hk]; exact hh)) hc fun z es l hrow => ?_
          rw [hψ id hk]
          exact hr z es l (by simpa only [rowOf, hnew id hk] using hrow)
      have two : ∀ (v : Value) (x : AV), ok2 x = true → (lo = true → (match x with | .t _ l => l | .agg cs => cs.all (fun | .t _ l => l | _ => true) | _ => true) = true) → VR m1 w.heap.size (lk bs) w' v x → VR (mrg m m1 n bs.length w.heap.size) c.B (uH h (number n bs)) w' v (x.sh2 n) := by
        intro v x hx hf hv
        cases x
        case agg cs =>
          simp only [ok2, List.all_eq_true] at hx
          cases hv with
          | agg vs _ hs hvv =>
            refine .agg vs _ (by simpa using hs) fun j u y hu hy => ?_
            rw [List.getElem?_map] at hy
            simp only [Option.map_eq_some_iff] at hy
            obtain ⟨y0, hy0, rfl⟩ := hy
            refine one u y0 (hx y0 (List.mem_of_getElem? hy0)) (fun e => ?_) (hvv j u y0 hu hy0)
            have := hf e
            simp only [List.all_eq_true] at this
            exact this y0 (List.mem_of_getElem? hy0)
        all_goals (simp only [ok2] at hx; exact one v _ hx hf hv)
      have hf0 := fun e => (hl e).1
      cases r
      case tup us =>
        simp only [ok3, List.all_eq_true] at hform
        cases hv with
        | tup vs _ hs hvv =>
          refine .tup vs _ (by simpa using hs) fun j u y hu hy => ?_
          rw [List.getElem?_map] at hy
          simp only [Option.map_eq_some_iff] at hy
          obtain ⟨y0, hy0, rfl⟩ := hy
          refine two u y0 (hform y0 (List.mem_of_getElem? hy0)) (fun e => ?_) (hvv j u y0 hu hy0)
          have := hf0 e
          simp only [AV.fresh, List.all_eq_true] at this
          exact this y0 (List.mem_of_getElem? hy0)
      all_goals (simp only [ok3] at hform; exact two v _ hform (fun e => hf0 e) hv)
end
section
variable {P : Program} {w w' : World} {c : Ct} {m m' m1 : Mp} {h h' h1 : H} {ti : Nat → Option TI} {tm : Tm} {a : Act}
theorem called_sound (hM : Mem c m h w) {n : Nat} {g : Nat} {as : List AV} {ts0 ts : List T} {bs : List Blk} {r : AV} (hn : ∀ i, n ≤ i → i < n + bs.length → h i = none) (ha : argsOK h as ts0) (hb : bares ts0 ts) (hsp : Spec c.P g ts bs r)
    (hl : as.any AV.loose = true → r.fresh = true ∧ bs.all Blk.fresh = true) {args : Array Value} (hsz : args.size = as.length) (hargs : ∀ (j : Nat) (v : Value) (x : AV), args[j]? = some v → as[j]? = some x → VR m c.B h w v x) :
    Calls c.P g args w fun
      | .returned v, w' => ∃ m', Ext m h w m' (uH h (number n bs)) w' ∧ Mem c m' (uH h (number n bs)) w' ∧ VR m' c.B (uH h (number n bs)) w' v (r.sh n)
      | _, _ => False := by
  obtain ⟨al0, ag⟩ := argsOK_get ha
  obtain ⟨al, ab⟩ := bares_get hb
  rw [al] at al0
  have hcall := hsp.run w (lead m w (as.any AV.loose)) args (fun b hb => hb.1) (glob_in hM fun b hb => ⟨hM.stlt b (hM.kept b hb).1, fun _ => (hM.kept b hb).1⟩) (by omega) (fun j v x hv hx => by
    have hj := (List.getElem?_eq_some_iff.1 hx).1
    obtain ⟨u, hu⟩ := list_get (l := as) (j := j) (by omega)
    obtain ⟨x0, hx0, hr0⟩ := ab j x hx
    refine hr0 _ _ _ (lead_mono (fun e => ?_) (arg_rep hM (ag j u x0 hu hx0) (hargs j v u hv hu)))
    rw [List.any_eq_false] at e
    simpa using e u (List.mem_of_getElem? hu))
  exact called_at hM (as.any AV.loose) hn hsp.form hsp.rows hl hcall
theorem wide_one (hM : Mem c m h w) {k : Nat} {v : AV} (hw : v.wide k) {rv : Value} (hv : VR m c.B h w rv v) : ∃ vs : Array Value, rv = .agg vs ∧ vs.size = k ∧ ∀ (j : Nat) (v : Value), vs[j]? = some v → v.oneCell' = true := by
  cases v <;> simp only [AV.wide] at hw
  case agg cs =>
    cases hv with
    | agg vs _ hs hvv =>
      refine ⟨vs, rfl, by omega, fun j u hu => ?_⟩
      have hj := (Array.getElem?_eq_some_iff.1 hu).1
      obtain ⟨x, hx⟩ := list_get (l := cs) (j := j) (by omega)
      exact vr_one (hvv j u x hu hx) (hw.2 x (List.mem_of_getElem? hx))
  case t x l =>
    cases hv with
    | t _ _ _ hr =>
      cases x <;> simp only at hw
      rename_i cs
      cases hr with
      | agg vs _ hs hvv =>
        refine ⟨vs, rfl, by omega, fun j u hu => ?_⟩
        have hj := (Array.getElem?_eq_some_iff.1 hu).1
        obtain ⟨x, hx⟩ := list_get (l := cs) (j := j) (by omega)
        exact one_of_rep (hvv j u x hu hx) (hw.2 x (List.mem_of_getElem? hx))
theorem ones_get {cs : List AV} {vs : Array Value} (hl : vs.size = cs.length) (hv : ∀ (j : Nat) (u : Value) (x : AV), vs[j]? = some u → cs[j]? = some x → VR m c.B h w u x) (h1 : ∀ v ∈ cs, v.one) (j : Nat) (u : Value) (hu : vs[j]? = some u) : u.oneCell' = true := by
  have hj := (Array.getElem?_eq_some_iff.1 hu).1
  obtain ⟨x, hx⟩ := list_get (l := cs) (j := j) (by omega)
  exact vr_one (hv j u x hu hx) (h1 x (List.mem_of_getElem? hx))
theorem vals_rep {w : World} {B : Nat → Prop} {us : List Value} (h1 : ∀ u ∈ us, u.oneCell' = true) : ∀ (j : Nat) (v : Value) (x : T), us[j]? = some v → (us.map T.val)[j]? = some x → Rep w B v x := fun j v x hv hx => by
  rw [List.getElem?_map, hv] at hx
  simp only [Option.map_some, Option.some.injEq] at hx
  subst hx
  exact .val v (h1 v (List.mem_of_getElem? hv))
theorem rep_val {B : Nat → Prop} {v u : Value} (h : Rep w B v (.val u)) : v = u := by cases h; rfl
theorem exact_sound (hM : Mem c m h w) {g k : Nat} {v0 : AV} {cs as' : List AV} (hw : v0.wide k) (h1 : ∀ v ∈ cs, v.one) (h2 : ∀ v ∈ as', v.one)
    (hsp : ∀ us vs : List Value, us.length = cs.length → vs.length = as'.length → Spec c.P g (.agg (List.replicate k .what) :: .agg (us.map .val) :: vs.map .val) [] (.t (.agg ((us ++ vs).map .val)) false))
    {args : Array Value} (hsz : args.size = as'.length + 2) (hargs : ∀ (j : Nat) (v : Value) (x : AV), args[j]? = some v → (v0 :: .agg cs :: as')[j]? = some x → VR m c.B h w v x) :
    Calls c.P g args w fun
      | .returned v, w' => ∃ m', Ext m h w m' (uH h []) w' ∧ Mem c m' (uH h []) w' ∧ VR m' c.B (uH h []) w' v (.agg (cs ++ as'))
      | _, _ => False := by
  obtain ⟨l, rfl⟩ : ∃ l : List Value, args = l.toArray := ⟨args.toList, by simp⟩
  match l, hsz with
  | a0 :: a1 :: vs, hsz =>
    have hvl : vs.length = as'.length := by simpa using hsz
    have g0 := hargs 0 a0 v0 rfl rfl
    have g1 := hargs 1 a1 (.agg cs) rfl rfl
    obtain ⟨u0, rfl, z1, z2⟩ := wide_one hM hw g0
    cases g1 with
    | agg us _ hul hus =>
    have hus1 : ∀ u ∈ us.toList, u.oneCell' = true := fun u hu => by
      obtain ⟨j, hj⟩ := List.getElem?_of_mem hu
      exact ones_get hul hus h1 j u (by simpa using hj)
    have hvs : ∀ (j : Nat) (u : Value) (x : AV), vs[j]? = some u → as'[j]? = some x → VR m c.B h w u x := fun j u x hu hx => hargs (j + 2) u x (by simpa using hu) (by simpa using hx)
    have hvs1 : ∀ u ∈ vs, u.oneCell' = true := fun u hu => by
      obtain ⟨j, hj⟩ := List.getElem?_of_mem hu
      have hlt := (List.getElem?_eq_some_iff.1 hj).1
      obtain ⟨x, hx⟩ := list_get (l := as') (j := j) (by omega)
      exact vr_one (hvs j u x hj hx) (h2 x (List.mem_of_getElem? hx))
    have hcall := (hsp us.toList vs (by simpa using hul) hvl).run w m.st (Value.agg u0 :: Value.agg us :: vs).toArray (fun b hb => hM.stlt b hb) (glob_in hM fun b hb => (hM.kept b hb).1) (by simp) (fun j v x hv hx => by
      match j with
      | 0 =>
        simp at hv hx
        subst hv; subst hx
        refine .agg u0 _ (by simpa using z1) fun i u y hu hy => ?_
        have : y = .what := List.eq_of_mem_replicate (List.mem_of_getElem? hy)
        subst this
        exact .what u (z2 i u hu)
      | 1 =>
        simp at hv hx
        subst hv; subst hx
        refine .agg us _ (by simp) fun i u y hu hy => vals_rep hus1 i u y (by simpa using hu) hy
      | j + 2 => exact vals_rep hvs1 j v x (by simpa using hv) (by simpa using hx))
    refine hcall.mono fun e w' he => ?_
    cases e with
    | panicked _ => exact he
    | outgrown => exact he
    | returned v =>
      obtain ⟨m1, M1, hv⟩ := he
      have hB := M1.below
      simp only at hB
      have hsize : c.B ≤ w.heap.size := hM.bsize
      have hext : Ext m h w m (uH h []) w' := by
        refine ⟨fun id hid => hid, fun id hid => rfl, fun id v' z es l hid hh => ⟨v', z, es, l, hh, Nat.le_refl _⟩, fun id ver z es l hid hver hh => ⟨⟨es, l, hh⟩, rfl⟩, fun b hb => hb, fun b hb => hB.block b (hM.stlt b hb)⟩
      refine ⟨m, hext, ⟨hM.below.trans (hB.mono hsize), hext.kept hM.kept, fun i b hi => ?_, fun i j g hi hj => hM.sep i j g hi hj, fun b hb => Nat.lt_of_lt_of_le (hM.stlt b hb) hB.size, fun b hb => hM.stin b hb, hM.softE hext, fun b hb => ⟨Nat.lt_of_lt_of_le (hM.res b hb).1 hB.size, (hM.res b hb).2.1, (hM.res b hb).2.2.1, (hB.block b (hM.res b hb).1).trans (hM.res b hb).2.2.2⟩⟩, ?_⟩
      · refine (hM.blk i b hi).keep hext rfl rfl fun g hg => ?_
        obtain ⟨p1, p2, p3⟩ := hM.placed hi hg
        exact ⟨p3, hB.block g p1⟩
      · cases hv with
        | t _ _ _ hr =>
          cases hr with
          | agg rs _ hrs hrr =>
            have hre : rs = (us.toList ++ vs).toArray := by
              apply Array.ext
              · simpa using hrs
              · intro i h3 h4
                have hx : ((us.toList ++ vs).map T.val)[i]? = some (.val (us.toList ++ vs)[i]) := by
                  rw [List.getElem?_map, List.getElem?_eq_getElem (by simpa using h4)]; rfl
                have := rep_val (hrr i rs[i] _ (by simp [h3]) hx)
                rw [this]
                simp
            subst hre
            refine .agg _ _ (by simp; omega) fun j u x hu hx => ?_
            suffices hq : VR m c.B h w u x from hq.mono hext
            rcases Nat.lt_or_ge j cs.length with hj | hj
            · rw [List.getElem?_append_left hj] at hx
              refine hus j u x ?_ hx
              have hju : j < us.toList.length := by simpa using (by omega : j < us.size)
              have : (us.toList ++ vs)[j]? = some u := by simpa using hu
              rw [List.getElem?_append_left hju] at this
              simpa using this
            · rw [List.getElem?_append_right hj] at hx
              refine hvs (j - cs.length) u x ?_ hx
              have : (us.toList ++ vs)[j]? = some u := by simpa using hu
              rw [List.getElem?_append_right (by simpa using (by omega : us.size ≤ j))] at this
              rw [show us.toList.length = cs.length by simpa using hul] at this
              exact this
end
def RowAt (w : World) (g cap : Nat) (xs : List (List T)) : Prop :=
  ∃ rcs t, w.heap[g]? = some (.cells rcs t (0, 0)) ∧ cap ≤ rcs.size ∧ ∀ (q : Nat) (e : List T) (x : T), xs[q]? = some e → e[0]? = some x → ∃ v, rcs[q]? = some v ∧ Rep w (fun _ => False) v x
structure SpecAp (P : Program) (f : Nat) (xs : List (List T)) (ts : List T) (ys : List (List T)) : Prop where
  flat : ∀ e ∈ xs ++ ys, ∃ k n, e = [T.i k n]
  body : ∃ fn c, P.funcs[f]? = some fn ∧ fn.body = some c ∧ fn.name ≠ "runtime.NumGoroutine"
  fits : xs.length + ys.length ≤ room
  run : ∀ (w : World) (B : Nat → Prop) (A : Option Addr) (g cap : Nat) (args : Array Value), (∀ b, B b → b < w.heap.size ∧ (0 < cap → b ≠ g)) → GlobOK w B → (0 < cap → A = some ⟨g, 0, none⟩ ∧ RowAt w g cap xs) → xs.length ≤ cap →
    args.size = ts.length + 1 → args[0]? = some (.slice A xs.length cap) → (∀ (j : Nat) (v : Value) (x : T), args[j + 1]? = some v → ts[j]? = some x → Rep w B v x) →
    Calls P f args w fun
      | .returned v, w' => ∃ A' g' cap', v = .slice A' (xs.length + ys.length) cap' ∧ xs.length + ys.length ≤ cap' ∧ (0 < cap' → A' = some ⟨g', 0, none⟩ ∧ RowAt w' g' cap' (xs ++ ys) ∧ ((0 < cap ∧ g' = g) ∨ w.heap.size ≤ g')) ∧ w.grownBy w' (if 0 < cap then some g else none)
      | _, _ => False
section
variable {P : Program} {w w' : World} {c : Ct} {m m' m1 : Mp} {h h' h1 : H} {ti : Nat → Option TI} {tm : Tm} {a : Act}
theorem Rep.no {B : Nat → Prop} {v : Value} {x : T} (hr : Rep w (fun _ => False) v x) : Rep w' B v x := hr.mono (fun _ h => h.elim) (fun _ h => h.elim)
theorem rep_flat {B : Nat → Prop} {v : Value} {k : IntKind} {n : Int} (hr : Rep w B v (.i k n)) : Rep w' (fun _ => False) v (.i k n) := by cases hr; exact .i _ _
theorem easy_rep (hM : Mem c m h w) {id ver z : Nat} {es : List (List T)} {l : Bool} (hid : h id = some (.row ver z es l)) {v : AV} (hv : v.easy id = true) {y : T} (ha : argOK h v y) {rv : Value} (hr : VR m c.B h w rv v) :
    Rep w (fun b => b < w.heap.size ∧ (0 < (m.ψ id).2 → b ≠ (m.ψ id).1)) rv y := by
  have hst : ∀ b, m.st b → b < w.heap.size ∧ (0 < (m.ψ id).2 → b ≠ (m.ψ id).1) := fun b hb => ⟨hM.stlt b hb, fun h0 e => by
    subst e
    exact (hM.place_lt (id := id) (g := (m.ψ id).1) (by simp [place, hid, placeB, h0])).2.2 hb⟩
  cases v <;> simp only [AV.easy, Bool.false_eq_true, decide_eq_true_eq] at hv
  case t x l => simp only [argOK, arg1] at ha; subst ha; cases hr with | t _ _ _ hr => exact hr.mono (fun b hb => hst b hb.1) (fun _ _ => rfl)
  case nl => simp only [argOK, arg1] at ha; cases hr; rcases ha with rfl | rfl; (exact Rep.nilslice _); exact .nl
  case e0 => simp only [argOK, arg1] at ha; subst ha; cases hr; exact Rep.nilslice _
  case row id' ver' off len =>
    simp only [argOK, arg1] at ha
    obtain ⟨p, hp, rfl⟩ := ha
    simp only [elems] at hp
    split at hp <;> try cases hp
    rename_i hr'
    split at hp <;> simp only [Option.some.injEq, reduceCtorEq] at hp
    rename_i hl
    subst hp
    have hid' := rowOf_some hr'
    refine (row_rep hM hr hr' hl).mono (fun b hb => ?_) (fun _ _ => rfl)
    rcases hb.1 with h1 | ⟨h1, rfl⟩
    · exact hst b h1
    · have hp' : place m h id' = some (m.ψ id').1 := by simp [place, hid', placeB, h1]
      exact ⟨(hM.place_lt hp').1, fun h0 e => hv (hM.sep id' id _ hp' (by simp [place, hid, placeB, h0, e]))⟩
  case vs id' off len z' =>
    simp only [argOK, arg1] at ha
    obtain ⟨p, hp, h0, hz, rfl⟩ := ha
    have hvar : ∃ cs, h id' = some (.var cs) := by
      simp only [elems] at hp
      split at hp <;> try cases hp
      rename_i cs hcs
      unfold varOf at hcs
      split at hcs <;> simp only [Option.some.injEq, reduceCtorEq] at hcs
      rename_i hh
      exact ⟨cs, by rw [hh, hcs]⟩
    obtain ⟨cs0, hcs0⟩ := hvar
    have hplace : place m h id' = some (m.φ id') := by simp [place, hcs0, placeB]
    obtain ⟨A, k, rfl, hr1, news, hnl, hnews, hnr⟩ := elems_cells hM hp hr z' hz h0
    have hA : 0 < k → A = some ⟨m.φ id', off, none⟩ := by
      generalize p.1.length = q at hr
      cases hr with
      | vs _ _ _ _ _ _ _ hc hA => exact hA
    have hle : p.1.length ≤ k := by
      generalize p.1.length = q at hr
      cases hr with
      | vs _ _ _ _ _ _ _ hc _ => exact hc
    refine .sl A p.1.length k p.1 z' (fun i j => (news[i * z' + j]?).getD undef) rfl hle hr1 (fun e => by
      rcases Nat.eq_zero_or_pos k with h | h
      · exact h
      · rw [hA h] at e; cases e) (fun i e he => hz e (List.mem_of_getElem? he)) (fun hpos => ?_) fun i j e x he hx => ?_
    · obtain ⟨ad, rfl, hcell⟩ := hnews hpos
      have hall : ∀ i j, i < p.1.length → j < z' → w.cell? (ad.add (i * z' + j)) = some ((news[i * z' + j]?).getD undef) := fun i j hi hj => by
        have hlt : i * z' + j < news.length := by
          rw [hnl]
          have : (i + 1) * z' ≤ p.1.length * z' := Nat.mul_le_mul_right _ hi
          rw [Nat.add_mul] at this
          omega
        rw [List.getElem?_eq_getElem hlt, Option.getD_some]
        exact hcell _ _ (List.getElem?_eq_getElem hlt)
      refine ⟨ad, rfl, ⟨?_, fun hψ e => ?_⟩, hall⟩
      · have := cell_lt (hall 0 0 hpos h0)
        rwa [block_add] at this
      · have had := hA (by omega)
        simp only [Option.some.injEq] at had
        rw [had] at e
        exact hv (hM.sep id' id _ hplace (by simp [place, hid, placeB, hψ]; exact e.symm))
    · obtain ⟨v, hv1, hv2⟩ := hnr i j e x he hx
      simp only [hv1, Option.getD_some]
      exact hv2.mono (fun b hb => hst b hb.1) (fun _ _ => rfl)
theorem over_sound (hM : Mem c m h w) {id ver len g : Nat} {es : List (List T)} {l : Bool} {as' : List AV} {ts : List T} {ys : List (List T)} (hrow : rowOf h id ver = some (1, es, l)) (hlen : len ≤ es.length) (hne : as'.all (AV.easy id) = true) (ha : argsOK h as' ts)
    (hs : SpecAp c.P g (es.take len) ts ys) {args : Array Value} (hsz : args.size = as'.length + 1) (hargs : ∀ (j : Nat) (v : Value) (x : AV), args[j]? = some v → (AV.row id ver 0 len :: as')[j]? = some x → VR m c.B h w v x) :
    Calls c.P g args w fun
      | .returned v, w' => ∃ m', Ext m h w m' (uH h [(id, .row (ver + 1) 1 (es.take len ++ ys) l)]) w' ∧ Mem c m' (uH h [(id, .row (ver + 1) 1 (es.take len ++ ys) l)]) w' ∧ VR m' c.B (uH h [(id, .row (ver + 1) 1 (es.take len ++ ys) l)]) w' v (.row id (ver + 1) 0 (len + ys.length))
      | _, _ => False := by
  have hid := rowOf_some hrow
  obtain ⟨b1, b2, b3, b4⟩ := hM.blk _ _ hid
  obtain ⟨al, ag⟩ := argsOK_get ha
  have htl : (es.take len).length = len := by simp; omega
  obtain ⟨rv, hrv⟩ : ∃ rv, args[0]? = some rv := ⟨args[0]'(by omega), by simp [show 0 < args.size by omega]⟩
  have h0 := hargs 0 rv _ hrv rfl
  cases h0 with
  | row _ _ _ _ cap A hid' hver hcap hvr =>
    obtain ⟨v1, v2⟩ := hvr _ _ _ hrow
    have hpsi : 0 < cap → 0 < (m.ψ id).2 := fun h => by omega
    have hrowAt : 0 < cap → A = some ⟨(m.ψ id).1, 0, none⟩ ∧ RowAt w (m.ψ id).1 cap (es.take len) := fun hc => by
      obtain ⟨g1, g2, rcs, tt, g3, g4, g5⟩ := b4 (hpsi hc)
      refine ⟨by rw [v2 hc, Nat.zero_mul]; rfl, rcs, tt, g3, by omega, fun q e x he hx => ?_⟩
      obtain ⟨k, n, rfl⟩ := hs.flat e (List.mem_append_left _ (List.mem_of_getElem? he))
      have hq : q < len := by have := (List.getElem?_eq_some_iff.1 he).1; omega
      rw [List.getElem?_take_of_lt hq] at he
      obtain ⟨v, hv1, hv2⟩ := g5 q 0 _ x he hx
      rw [Nat.mul_one, Nat.add_zero] at hv1
      simp only [List.getElem?_cons_zero, Option.some.injEq] at hx
      subst hx
      exact ⟨v, hv1, rep_flat hv2⟩
    have hcall := hs.run w (fun b => b < w.heap.size ∧ (0 < (m.ψ id).2 → b ≠ (m.ψ id).1)) A (m.ψ id).1 cap args (fun b hb => ⟨hb.1, fun hc => hb.2 (hpsi hc)⟩) (glob_in hM fun b hb => ⟨hM.stlt b (hM.kept b hb).1, fun h0 e => by
      have := (hM.kept b hb).1
      rw [e] at this
      exact (hM.place_lt (id := id) (g := (m.ψ id).1) (by simp [place, hid, placeB, h0])).2.2 this⟩) hrowAt (by omega) (by omega) (by rw [hrv, htl]) (fun j v x hv hx => by
      have hj := (List.getElem?_eq_some_iff.1 hx).1
      obtain ⟨u, hu⟩ := list_get (l := as') (j := j) (by omega)
      exact easy_rep hM hid (List.all_eq_true.1 hne u (List.mem_of_getElem? hu)) (ag j u x hu hx) (hargs (j + 1) v u hv (by simpa using hu)))
    refine hcall.mono fun e w' he => ?_
    cases e with
    | panicked _ => exact he
    | outgrown => exact he
    | returned v =>
      obtain ⟨A', g', cap', rfl, hc', hA', hg⟩ := he
      rw [htl] at hc'
      have hg' : w.grownBy w' (if 0 < (m.ψ id).2 then some (m.ψ id).1 else none) := ⟨hg.os, hg.tape, hg.output, hg.size, fun k hk hne => by
        by_cases hc : 0 < cap
        · exact hg.block k hk (by rw [if_pos hc]; rw [if_pos (hpsi hc)] at hne; exact hne)
        · exact hg.block k hk (by rw [if_neg hc]; exact fun e => by cases e)⟩
      have hflat : ∀ e ∈ es.take len ++ ys, e.length = 1 := fun e he => by
        obtain ⟨k, n, rfl⟩ := hs.flat e he
        rfl
      have G := hM.regrow hid hg' (g', cap') (es.take len ++ ys) l (fun h => by
          obtain ⟨_, _, h3⟩ := hA' h
          rcases h3 with ⟨h4, rfl⟩ | h4
          · exact .inl ⟨rfl, hpsi h4⟩
          · exact .inr h4) (fun he hst hB => by
        refine ⟨by simp [setF, htl]; omega, by simpa using hs.fits, fun q e he' => hflat e (List.mem_of_getElem? he'), fun hψ => ?_⟩
        simp only [setF, if_true] at hψ ⊢
        obtain ⟨_, ⟨rcs, tt, r1, r2, r3⟩, _⟩ := hA' hψ
        refine ⟨hB hψ, fun hs' => hst ⟨hs', hψ⟩, rcs, tt, r1, by simpa using r2, fun q j e x he' hx => ?_⟩
        have hj : j = 0 := by
          have h1 := (List.getElem?_eq_some_iff.1 hx).1
          rw [hflat e (List.mem_of_getElem? he')] at h1
          omega
        subst hj
        obtain ⟨v, r4, r5⟩ := r3 q e x he' hx
        exact ⟨v, by simpa using r4, r5.no⟩)
      refine ⟨_, G.1, G.2, ?_⟩
      rw [htl]
      refine .row id (ver + 1) 0 _ cap' A' (by simp [uH]) (fun v' z es l e => by simp [uH] at e; omega) hc' fun z' es' l' hr => ?_
      simp [uH, rowOf] at hr
      obtain ⟨rfl, rfl, rfl⟩ := hr
      simp only [setF, if_true]
      exact ⟨by omega, fun h => by rw [Nat.zero_mul]; exact (hA' h).1⟩
theorem setH_setH (h : H) (n : Nat) (b b' : Blk) : setH (setH h n b) n b' = setH h n b' := by
  funext i
  by_cases e : i = n <;> simp [setH, e]
theorem easy_mono {m' : Mp} {v : AV} {rv : Value} {y : T} (he : Ext m h w m' h' w') (ha : argOK h v y) {n : Nat} (hn : h n = none) (hv : v.easy n = true) (hh : ∀ i, i ≠ n → h' i = h i) : argOK h' v y := by
  cases v <;> simp only [AV.easy, Bool.false_eq_true, decide_eq_true_eq] at hv <;> try exact ha
  case row id' ver' off len =>
    simp only [argOK, arg1, elems] at ha ⊢
    have : rowOf h' id' ver' = rowOf h id' ver' := by unfold rowOf; rw [hh id' hv]
    rw [this]
    exact ha
  case vs id' off len z' =>
    simp only [argOK, arg1, elems] at ha ⊢
    have : varOf h' id' = varOf h id' := by unfold varOf; rw [hh id' hv]
    rw [this]
    exact ha
theorem easys_mono {m' : Mp} (he : Ext m h w m' h' w') {n : Nat} (hn : h n = none) (hh : ∀ i, i ≠ n → h' i = h i) : ∀ {as : List AV} {ts : List T}, argsOK h as ts → as.all (AV.easy n) = true → argsOK h' as ts
  | [], _, ha, _ => ha
  | v :: vs, _, ha, hv => by
    obtain ⟨y, ys, e, h1, h2⟩ := ha
    simp only [List.all_cons, Bool.and_eq_true] at hv
    exact ⟨y, ys, e, easy_mono (rv := undef) he h1 hn hv.1 hh, easys_mono he hn hh h2 hv.2⟩
theorem onto_sound (hM : Mem c m h w) {n g : Nat} (hn : h n = none) {as' : List AV} {ts : List T} {ys : List (List T)} (hne : as'.all (AV.easy n) = true) (ha : argsOK h as' ts)
    (hs : SpecAp c.P g [] ts ys) {args : Array Value} (hsz : args.size = as'.length + 1) (hargs : ∀ (j : Nat) (v : Value) (x : AV), args[j]? = some v → (AV.nl :: as')[j]? = some x → VR m c.B h w v x) :
    Calls c.P g args w fun
      | .returned v, w' => ∃ m', Ext m h w m' (uH h [(n, .row 1 1 ys true)]) w' ∧ Mem c m' (uH h [(n, .row 1 1 ys true)]) w' ∧ VR m' c.B (uH h [(n, .row 1 1 ys true)]) w' v (.row n 1 0 ys.length)
      | _, _ => False := by
  have G := hM.add hn (.row 0 1 [] true) 0 (0, 0) (fun g hg => by simp [placeB, setF] at hg) (fun he => ⟨by simp [setF], by simp, by simp, fun h0 => by simp [setF] at h0⟩)
  have hh : ∀ i, i ≠ n → setH h n (.row 0 1 [] true) i = h i := fun i hi => by simp [setH, hi]
  have hrow : rowOf (setH h n (.row 0 1 [] true)) n 0 = some (1, [], true) := by simp [rowOf, setH]
  have hcall := over_sound G.2 (len := 0) (g := g) (ys := ys) hrow (Nat.le_refl _) hne (easys_mono G.1 hn hh ha hne) hs hsz (fun j v x hv hx => by
    cases j with
    | zero =>
      simp only [List.getElem?_cons_zero, Option.some.injEq] at hx
      subst hx
      have h0 := hargs 0 v .nl hv rfl
      cases h0
      exact .row _ 0 0 0 0 none (by simp [setH]) (fun _ _ _ _ _ => Nat.zero_le _) (Nat.le_refl _) fun z es l hr => ⟨by simp, by simp⟩
    | succ j => exact (hargs (j + 1) v x hv (by simpa using hx)).mono G.1)
  refine hcall.mono fun e w' he => ?_
  cases e with
  | panicked _ => exact he
  | outgrown => exact he
  | returned v =>
    obtain ⟨m', e1, M1, hv⟩ := he
    have hu : uH (setH h n (.row 0 1 [] true)) [(n, .row (0 + 1) 1 (([] : List (List T)).take 0 ++ ys) true)] = uH h [(n, .row 1 1 ys true)] := setH_setH _ _ _ _
    rw [hu] at e1 M1 hv
    rw [Nat.zero_add, Nat.zero_add] at hv
    exact ⟨m', G.1.trans e1, M1, hv⟩
end
end Go.Proofs.YtgkmhmhbepfiaaaDoor.Pm
set_option linter.all false
namespace Go.Proofs.YtgkmhmhbepfiaaaDoor.Pm
open Go Go.RowKit
def isRow (h : H) (id : Nat) : Prop := ∃ v z es l, h id = some (.row v z es l)
theorem rowOf_isRow {h : H} {id ver : Nat} {r : Nat × List (List T) × Bool} (hr : rowOf h id ver = some r) : isRow h id := by
  obtain ⟨z, es, l⟩ := r
  exact ⟨_, _, _, _, rowOf_some hr⟩
theorem emb_ids {h : H} {v : AV} {x : T} {l : Bool} {us : List (Nat × Blk)} (he : emb h v = some (x, l, us)) : ∀ u ∈ us, isRow h u.1 := by
  cases v <;> simp only [emb, Option.some.injEq, Prod.mk.injEq, reduceCtorEq] at he
  case t => obtain ⟨_, _, rfl⟩ := he; simp
  case nl => obtain ⟨_, _, rfl⟩ := he; simp
  case e0 => obtain ⟨_, _, rfl⟩ := he; simp
  case row id ver off len =>
    split at he <;> try cases he
    rename_i hr
    split at he <;> simp only [Option.some.injEq, Prod.mk.injEq, reduceCtorEq] at he
    obtain ⟨_, _, rfl⟩ := he
    simpa using rowOf_isRow hr
theorem embs_ids {h : H} : ∀ {vs : List AV} {xs : List T} {l : Bool} {us : List (Nat × Blk)}, embs h vs = some (xs, l, us) → ∀ u ∈ us, isRow h u.1
  | [], xs, l, us, he => by simp [embs] at he; obtain ⟨_, _, rfl⟩ := he; simp
  | v :: vs, xs, l, us, he => by
    simp only [embs] at he
    split at he <;> simp only [Option.some.injEq, Prod.mk.injEq, reduceCtorEq] at he
    rename_i h1 h2
    obtain ⟨_, _, rfl⟩ := he
    intro u hu
    rcases List.mem_append.1 hu with hu | hu
    · exact emb_ids h1 u hu
    · exact embs_ids h2 u hu
theorem fillS_ids {h : H} {tm : Tm} {z : Nat} : ∀ {ps : List (Nat × Operand)} {es es' : List (List T)} {l : Bool} {us : List (Nat × Blk)}, fillS h tm z ps es = some (es', l, us) → ∀ u ∈ us, isRow h u.1
  | [], es, es', l, us, he => by simp [fillS] at he; obtain ⟨_, _, rfl⟩ := he; simp
  | (k, x) :: ps, es, es', l, us, he => by
    simp only [fillS] at he
    split at he <;> try cases he
    split at he <;> try cases he
    split at he <;> try cases he
    rename_i h1
    split at he <;> try cases he
    split at he <;> simp only [Option.some.injEq, Prod.mk.injEq, reduceCtorEq] at he
    rename_i h2
    obtain ⟨_, _, rfl⟩ := he
    intro u hu
    rcases List.mem_append.1 hu with hu | hu
    · exact embs_ids h1 u hu
    · exact fillS_ids h2 u hu
theorem atT_us {l : Bool} {o : Option T} {p : Prop} {v : AV} {us : List (Nat × Blk)} (h : atT l o = some (p, v, us)) : us = [] := by
  simp only [atT, Option.some.injEq, Prod.mk.injEq] at h; exact h.2.2.symm
theorem atA_us {o : Option AV} {p : Prop} {v : AV} {us : List (Nat × Blk)} (h : atA o = some (p, v, us)) : us = [] := by
  simp only [atA, Option.some.injEq, Prod.mk.injEq] at h; exact h.2.2.symm
theorem okR_us {x : AV} {p : Prop} {v : AV} {us : List (Nat × Blk)} (h : okR x = some (p, v, us)) : us = [] := by
  simp only [okR, Option.some.injEq, Prod.mk.injEq] at h; exact h.2.2.symm
theorem partA_us {i : TI} {cs : List AV} {o : Nat} {p : Prop} {v : AV} {us : List (Nat × Blk)} (h : partA i cs o = some (p, v, us)) : us = [] := by
  unfold partA at h
  split at h
  · simp only [Option.some.injEq, Prod.mk.injEq] at h; exact h.2.2.symm
  · exact atA_us h
theorem partT_us {i : TI} {cs : List T} {o : Nat} {l : Bool} {p : Prop} {v : AV} {us : List (Nat × Blk)} (h : partT i cs o l = some (p, v, us)) : us = [] := by
  unfold partT at h
  split at h
  · simp only [Option.some.injEq, Prod.mk.injEq] at h; exact h.2.2.symm
  · exact atT_us h
theorem qLoad_us {ti : Nat → Option TI} {h1 : H} {t : Nat} {x : AV} {p : Prop} {v : AV} {us : List (Nat × Blk)} (h : qLoad ti h1 t x = some (p, v, us)) : us = [] := by
  unfold qLoad at h
  split at h <;> try (cases h; done)
  · split at h <;> try (cases h; done)
    exact partA_us h
  · exact partT_us h
  · exact partT_us h
  · split at h <;> try (cases h; done)
    split at h <;> simp only [Option.some.injEq, Prod.mk.injEq, reduceCtorEq] at h
    rename_i hp
    have := partT_us hp
    rw [← h.2.2]; exact this
theorem qSlice_us {ti : Nat → Option TI} {tm : Tm} {h1 : H} {t : Nat} {x : AV} {lo hi mx : Option Operand} {p : Prop} {v : AV} {us : List (Nat × Blk)} (h : qSlice ti tm h1 t x lo hi mx = some (p, v, us)) : us = [] := by
  unfold qSlice at h
  dsimp only at h
  repeat' split at h
  all_goals first
    | (cases h; done)
    | (simp only [Option.some.injEq, Prod.mk.injEq] at h; exact h.2.2.symm)
theorem qIxA_us {ti : Nat → Option TI} {h1 : H} {t : Nat} {x : AV} {k : Int} {p : Prop} {v : AV} {us : List (Nat × Blk)} (h : qIxA ti h1 t x k = some (p, v, us)) : us = [] := by
  unfold qIxA at h
  split at h <;> try (cases h; done)
  all_goals (split at h <;> simp only [Option.some.injEq, Prod.mk.injEq, reduceCtorEq] at h <;> exact h.2.2.symm)
theorem qLen_us {ti : Nat → Option TI} {t : Nat} {x : AV} {p : Prop} {v : AV} {us : List (Nat × Blk)} (h : qLen ti t x = some (p, v, us)) : us = [] := by
  unfold qLen at h
  split at h <;> try (cases h; done)
  · exact okR_us h
  · split at h <;> try (cases h; done)
    exact okR_us h
theorem qAppend_us {ti : Nat → Option TI} {h1 : H} {n t : Nat} {x y : AV} {p : Prop} {v : AV} {us : List (Nat × Blk)} (h : qAppend ti h1 n t x y = some (p, v, us)) :
    (∀ u ∈ us, u.1 = n ∨ isRow h1 u.1) ∧ ((∃ b, (n, b) ∈ us) ∨ ∀ n', qAppend ti h1 n' t x y = some (p, v, us)) := by
  unfold qAppend at h ⊢
  split at h <;> try (cases h; done)
  split at h
  · simp only [Option.some.injEq, Prod.mk.injEq] at h
    obtain ⟨_, _, rfl⟩ := h
    exact ⟨by simp, .inl ⟨_, List.mem_singleton.2 rfl⟩⟩
  · simp only [Option.some.injEq, Prod.mk.injEq] at h
    obtain ⟨_, _, rfl⟩ := h
    exact ⟨by simp, .inl ⟨_, List.mem_singleton.2 rfl⟩⟩
  · split at h <;> simp only [Option.some.injEq, Prod.mk.injEq, reduceCtorEq] at h
    rename_i hr
    obtain ⟨h1, h2, rfl⟩ := h
    refine ⟨by simpa using .inr (rowOf_isRow hr), .inr fun n' => ?_⟩
    simp only [Option.some.injEq, Prod.mk.injEq]
    exact ⟨h1, h2, trivial⟩
  · cases h
theorem qGrow_us {ti : Nat → Option TI} {h1 : H} {n t t' : Nat} {x y : AV} {p : Prop} {v : AV} {us : List (Nat × Blk)} (h : qGrow ti h1 n t t' x y = some (p, v, us)) :
    (∀ u ∈ us, u.1 = n ∨ isRow h1 u.1) ∧ ((∃ b, (n, b) ∈ us) ∨ ∀ n', qGrow ti h1 n' t t' x y = some (p, v, us)) := by
  unfold qGrow at h ⊢
  split at h <;> try (cases h; done)
  split at h
  · simp only [Option.some.injEq, Prod.mk.injEq] at h
    obtain ⟨_, _, rfl⟩ := h
    exact ⟨by simp, .inl ⟨_, List.mem_singleton.2 rfl⟩⟩
  · split at h <;> simp only [Option.some.injEq, Prod.mk.injEq, reduceCtorEq] at h
    rename_i hr
    obtain ⟨h1, h2, rfl⟩ := h
    refine ⟨by simpa using .inr (rowOf_isRow hr), .inr fun n' => ?_⟩
    simp only [Option.some.injEq, Prod.mk.injEq]
    exact ⟨h1, h2, trivial⟩
  · cases h
theorem q_none {ti : Nat → Option TI} {tm : Tm} {h1 : H} {n : Nat} {op : Op} {us : List (Nat × Blk)} (hu : us = []) (hst : ∀ n', q ti tm h1 n' op = q ti tm h1 n op) {p : Prop} {v : AV} (hq : q ti tm h1 n op = some (p, v, us)) :
    (∀ u ∈ us, u.1 = n ∨ isRow h1 u.1) ∧ ((∃ b, (n, b) ∈ us) ∨ ∀ n', q ti tm h1 n' op = some (p, v, us)) := by
  subst hu
  exact ⟨by simp, .inr fun n' => (hst n').trans hq⟩
theorem q_ids {ti : Nat → Option TI} {tm : Tm} {h1 : H} {n : Nat} {op : Op} {p : Prop} {v : AV} {us : List (Nat × Blk)} (hq : q ti tm h1 n op = some (p, v, us)) :
    (∀ u ∈ us, u.1 = n ∨ isRow h1 u.1) ∧ ((∃ b, (n, b) ∈ us) ∨ ∀ n', q ti tm h1 n' op = some (p, v, us)) := by
  have hq0 := hq
  cases op <;> simp only [q, reduceCtorEq] at hq
  case move a =>
    split at hq <;> try (cases hq; done)
    exact q_none (okR_us hq) (fun _ => rfl) hq0
  case assign a =>
    split at hq <;> try (cases hq; done)
    exact q_none (okR_us hq) (fun _ => rfl) hq0
  case pick c a b =>
    split at hq <;> try (cases hq; done)
    split at hq <;> try (cases hq; done)
    exact q_none (okR_us hq) (fun _ => rfl) hq0
  case alloc e =>
    split at hq <;> simp only [Option.some.injEq, Prod.mk.injEq, reduceCtorEq] at hq
    obtain ⟨_, _, rfl⟩ := hq
    exact ⟨by simp, .inl ⟨_, List.mem_singleton.2 rfl⟩⟩
  case box e a =>
    split at hq <;> try (cases hq; done)
    split at hq <;> simp only [Option.some.injEq, Prod.mk.injEq, reduceCtorEq] at hq
    obtain ⟨_, _, rfl⟩ := hq
    exact ⟨by simp, .inl ⟨_, List.mem_singleton.2 rfl⟩⟩
  case build t ps =>
    split at hq <;> try (cases hq; done)
    split at hq <;> simp only [Option.some.injEq, Prod.mk.injEq, reduceCtorEq] at hq
    exact q_none hq.2.2.symm (fun _ => rfl) hq0
  case buildSlice t len ps =>
    split at hq <;> try (cases hq; done)
    split at hq <;> simp only [Option.some.injEq, Prod.mk.injEq, reduceCtorEq] at hq
    rename_i hf
    obtain ⟨_, _, rfl⟩ := hq
    refine ⟨fun u hu => ?_, .inl ⟨_, List.mem_append_right _ (List.mem_singleton.2 rfl)⟩⟩
    rcases List.mem_append.1 hu with hu | hu
    · exact .inr (fillS_ids hf u hu)
    · simp at hu; exact .inl (by rw [hu])
  case load t a =>
    split at hq <;> try (cases hq; done)
    exact q_none (qLoad_us hq) (fun _ => rfl) hq0
  case nilCheck a =>
    split at hq <;> try (cases hq; done)
    all_goals exact q_none (okR_us hq) (fun _ => rfl) hq0
  case binOp o t a b u =>
    split at hq <;> try (cases hq; done)
    split at hq
    · simp only [Option.some.injEq, Prod.mk.injEq] at hq
      exact q_none hq.2.2.symm (fun _ => rfl) hq0
    · split at hq <;> try (cases hq; done)
      split at hq <;> simp only [Option.some.injEq, Prod.mk.injEq, reduceCtorEq] at hq
      exact q_none hq.2.2.symm (fun _ => rfl) hq0
  case unOp o t a =>
    split at hq <;> try (cases hq; done)
    split at hq <;> try (cases hq; done)
    exact q_none (okR_us hq) (fun _ => rfl) hq0
  case convert s d a =>
    split at hq <;> try (cases hq; done)
    · exact q_none (okR_us hq) (fun _ => rfl) hq0
    · split at hq <;> simp only [Option.some.injEq, Prod.mk.injEq, reduceCtorEq] at hq
      exact q_none hq.2.2.symm (fun _ => rfl) hq0
    · split at hq <;> simp only [Option.some.injEq, Prod.mk.injEq, reduceCtorEq] at hq
      rename_i he
      obtain ⟨_, _, rfl⟩ := hq
      exact ⟨fun u hu => .inr (emb_ids he u hu), .inr fun n' => hq0⟩
    · split at hq <;> simp only [Option.some.injEq, Prod.mk.injEq, reduceCtorEq] at hq
      exact q_none hq.2.2.symm (fun _ => rfl) hq0
  case makeFunc f a cap =>
    split at hq <;> try (cases hq; done)
    exact q_none (okR_us hq) (fun _ => rfl) hq0
  case makeSlice t a b =>
    split at hq <;> simp only [Option.some.injEq, Prod.mk.injEq, reduceCtorEq] at hq
    obtain ⟨_, _, rfl⟩ := hq
    exact ⟨by simp, .inl ⟨_, List.mem_singleton.2 rfl⟩⟩
  case slice t a lo hi mx =>
    split at hq <;> try (cases hq; done)
    exact q_none (qSlice_us hq) (fun _ => rfl) hq0
  case fieldAddr t a f =>
    split at hq <;> try (cases hq; done)
    all_goals (simp only [Option.some.injEq, Prod.mk.injEq] at hq; exact q_none hq.2.2.symm (fun _ => rfl) hq0)
  case field t a f =>
    split at hq <;> try (cases hq; done)
    · exact q_none (partT_us hq) (fun _ => rfl) hq0
    · exact q_none (partA_us hq) (fun _ => rfl) hq0
  case indexAddr t a b =>
    split at hq <;> try (cases hq; done)
    exact q_none (qIxA_us hq) (fun _ => rfl) hq0
  case index t a b =>
    split at hq <;> try (cases hq; done)
    · split at hq <;> simp only [Option.some.injEq, Prod.mk.injEq, reduceCtorEq] at hq
      rename_i hp
      have := partT_us hp
      exact q_none (by rw [← hq.2.2]; exact this) (fun _ => rfl) hq0
    · split at hq <;> simp only [Option.some.injEq, Prod.mk.injEq, reduceCtorEq] at hq
      rename_i hp
      have := partA_us hp
      exact q_none (by rw [← hq.2.2]; exact this) (fun _ => rfl) hq0
  case extract a k =>
    split at hq <;> try (cases hq; done)
    · exact q_none (atT_us hq) (fun _ => rfl) hq0
    · exact q_none (atA_us hq) (fun _ => rfl) hq0
  case call cl =>
    obtain ⟨callee, args, tys⟩ := cl
    cases callee <;> simp only [reduceCtorEq] at hq
    rename_i b
    split at hq <;> try (cases hq; done)
    rename_i vs hvs
    have same : ∀ n', q ti tm h1 n' (.call ⟨.builtin b, args, tys⟩) = qBuiltin ti h1 n' b tys.toList vs := fun n' => by
      simp only [q, hvs]
    cases b <;> simp only [qBuiltin, reduceCtorEq] at hq
    case len =>
      split at hq <;> try (cases hq; done)
      exact q_none (qLen_us hq) (fun n' => by rw [same, same]; rfl) hq0
    case cap =>
      split at hq <;> try (cases hq; done)
      all_goals (split at hq <;> try (cases hq; done))
      all_goals exact q_none (okR_us hq) (fun n' => by rw [same, same]; rfl) hq0
    case min =>
      split at hq <;> try (cases hq; done)
      exact q_none (okR_us hq) (fun n' => by rw [same, same]; rfl) hq0
    case max =>
      split at hq <;> try (cases hq; done)
      exact q_none (okR_us hq) (fun n' => by rw [same, same]; rfl) hq0
    case append =>
      split at hq <;> try (cases hq; done)
      split at hq <;> try (cases hq; done)
      · rename_i hty
        obtain ⟨g1, g2⟩ := qAppend_us hq
        clear hq0
        refine ⟨g1, g2.imp id fun g n' => ?_⟩
        rename_i hts
        rw [same, hts, hty]
        simp only [qBuiltin, if_true]
        rw [hty] at g
        exact g n'
      · rename_i hty
        obtain ⟨g1, g2⟩ := qGrow_us hq
        clear hq0
        refine ⟨g1, g2.imp id fun g n' => ?_⟩
        rename_i hts
        rw [same, hts]
        simp only [qBuiltin, if_neg hty]
        exact g n'
end Go.Proofs.YtgkmhmhbepfiaaaDoor.Pm
set_option linter.all false
namespace Go.Proofs.YtgkmhmhbepfiaaaDoor.Pm
open Go Go.RowKit
def fits : Nat → List (Nat × Blk) → Prop
  | _, [] => True
  | n, u :: us => u.1 ≤ n ∧ fits (max n (u.1 + 1)) us
section
variable {P : Program} {w w' : World} {c : Ct} {m m' m1 : Mp} {h h' h1 : H} {ti : Nat → Option TI} {tm : Tm} {a : Act}
theorem lk_upd1 (hp : List Blk) (u : Nat × Blk) (hu : u.1 ≤ hp.length) : lk (upd1 hp u) = setH (lk hp) u.1 u.2 ∧ (upd1 hp u).length = max hp.length (u.1 + 1) := by
  unfold upd1
  by_cases h1 : u.1 < hp.length
  · rw [if_pos h1]
    refine ⟨?_, by simp; omega⟩
    funext i
    by_cases e : i = u.1
    · subst e; simp [lk, setH, h1]
    · simp [lk, setH, e, Ne.symm e]
  · rw [if_neg h1]
    refine ⟨?_, by simp; omega⟩
    funext i
    have hl : u.1 = hp.length := by omega
    by_cases e : i = u.1
    · subst e; simp [lk, setH, hl]
    · simp only [lk, setH, e, if_false]
      rcases Nat.lt_or_ge i hp.length with h | h
      · rw [List.getElem?_append_left h]
      · rw [List.getElem?_append_right h, List.getElem?_eq_none (by simp; omega), List.getElem?_eq_none h]
theorem lk_upds : ∀ (us : List (Nat × Blk)) (hp : List Blk), fits hp.length us → lk (upds hp us) = uH (lk hp) us
  | [], hp, _ => rfl
  | u :: us, hp, hf => by
    obtain ⟨h1, h2⟩ := lk_upd1 hp u hf.1
    rw [upds, uH_cons, ← h1]
    exact lk_upds us _ (by rw [h2]; exact hf.2)
theorem fits_number : ∀ (bs : List Blk) (n : Nat), fits n (number n bs)
  | [], _ => trivial
  | b :: bs, n => ⟨Nat.le_refl _, by simp only; rw [Nat.max_eq_right (by omega)]; exact fits_number bs (n + 1)⟩
theorem lk_none (hp : List Blk) : lk hp hp.length = none := by simp [lk]
theorem arg1_sub (hs : Sub h1 h) {v : AV} {y : T} (ha : arg1 h1 v y) : arg1 h v y := by
  cases v <;> simp only [arg1] at ha ⊢ <;> try exact ha
  · obtain ⟨p, h1, h2⟩ := ha; exact ⟨p, elems_sub hs h1, h2⟩
  · obtain ⟨p, h1, h2⟩ := ha; exact ⟨p, elems_sub hs h1, h2⟩
  · obtain ⟨cs, p, h1, h2⟩ := ha; exact ⟨cs, p, varOf_sub hs h1, h2⟩
theorem argCs_sub (hs : Sub h1 h) : ∀ {cs : List AV} {p : List T}, argCs h1 cs p → argCs h cs p
  | [], _, ha => ha
  | v :: vs, p, ha => by
    obtain ⟨y, ys, e, h1, h2⟩ := ha
    exact ⟨y, ys, e, arg1_sub hs h1, argCs_sub hs h2⟩
theorem argOK_sub (hs : Sub h1 h) {v : AV} {y : T} (ha : argOK h1 v y) : argOK h v y := by
  cases v <;> simp only [argOK] at ha ⊢ <;> try exact arg1_sub hs ha
  · obtain ⟨p, h1, h2⟩ := ha; exact ⟨p, h1, argCs_sub hs h2⟩
  · obtain ⟨p, h1, h2⟩ := ha; exact ⟨p, h1, argCs_sub hs h2⟩
theorem argsOK_sub (hs : Sub h1 h) : ∀ {cs : List AV} {p : List T}, argsOK h1 cs p → argsOK h cs p
  | [], _, ha => ha
  | v :: vs, p, ha => by
    obtain ⟨y, ys, e, h1, h2⟩ := ha
    exact ⟨y, ys, e, argOK_sub hs h1, argsOK_sub hs h2⟩
def Ex.exit : Ex → Exit
  | .n => .normal
  | .x id => .exit id
  | .r => .ret
  | .g l => .goto l
def Lets (c : Ct) (K : Ex → S → Prop) (Q : Exit → Act → World → Prop) : Prop := ∀ e s a w m, K e s → Sat c m (lk s.hp) s.tm a w → Q e.exit a w
structure Env (x : Cx) (c : Ct) : Prop where
  ti : TIok c.P x.ti
  spec : ∀ g ts bs r, x.spec g ts bs r → Spec c.P g ts bs r
  ap : ∀ g xs ts ys, x.specAp g xs ts ys → SpecAp c.P g xs ts ys
  mixed : c.P.follows .mixedOrders = true
  hook : ∀ (n : Nat) (l : List I) (s : S) (K : S → Prop), x.hook n l s K → ∀ (ops : Array Oper) (m : Mp) (a : Act) (w : World) (Q : Exit → Act → World → Prop), trIs c.n ops.toList ops.toList = some l → Sat c m (lk s.hp) s.tm a w →
    (∀ s' a' w' m', K s' → Sat c m' (lk s'.hp) s'.tm a' w' → Q .normal a' w') → wpOps c.P ops Q (List.range' 0 ops.toList.length) a w
  lhook : ∀ (n : Nat) (ad : List (Nat × Nat)) (mk : List Nat) (C : C) (K : Ex → S → Prop) (s : S), x.lhook n ad mk C K s → ∀ (cd : Code) (fl : List Nat) (hs hs' : List Hint), tr0 c.n fl cd hs = some (C, hs') →
    ∀ Q, Lets c K Q → ∀ (a : Act) (w : World) (m : Mp), Sat c m (lk s.hp) s.tm a w → (Code.loop cd).wp c.P Q a w
structure Left (c : Ct) (m : Mp) (h : H) (w : World) (m' : Mp) (us : List (Nat × Blk)) (w' : World) (rv : Value) (v : AV) : Prop where
  ext : Ext m h w m' (uH h us) w'
  mem : Mem c m' (uH h us) w'
  vr : VR m' c.B (uH h us) w' rv v
theorem Left.sat (hS : Sat c m h tm a w) {us : List (Nat × Blk)} {rv : Value} {v : AV} (hl : Left c m h w m' us w' rv v) (d : Option Nat) (hd : ∀ t, d = some t → t < c.n) : Sat c m' (uH h us) (pt tm d (some v)) (a.put d rv) w' :=
  (hS.of_mem hl.ext hl.mem).put d hd hl.vr
def yields (x : Cx) (tm : Tm) (h : H) (n : Nat) (op : Op) (v : AV) (us : List (Nat × Blk)) : Prop := wq x tm h n op fun v' us' => v' = v ∧ us' = us
theorem yields_of {x : Cx} {tm : Tm} {h : H} {n : Nat} {op : Op} {K : AV → List (Nat × Blk) → Prop} (hK : wq x tm h n op K) : ∃ v us, yields x tm h n op v us ∧ K v us := by
  unfold wq at hK
  split at hK
  · rename_i f as hcall
    split at hK <;> try exact hK.elim
    rename_i g cap vs hf hvs
    obtain ⟨v, us, hC, hk⟩ := hK
    refine ⟨v, us, ?_, hk⟩
    simp only [yields, wq, hcall, hf, hvs]
    exact ⟨v, us, hC, rfl, rfl⟩
  · rename_i hcall
    split at hK <;> try exact hK.elim
    rename_i p v us hq
    refine ⟨v, us, ?_, hK.2⟩
    simp only [yields, wq, hcall, hq, and_self, and_true]
    exact hK.1
theorem yields_fits {x : Cx} {tm : Tm} {h : H} {n : Nat} (hn : ∀ i b, h i = some b → i < n) {op : Op} {v : AV} {us : List (Nat × Blk)} (hy : yields x tm h n op v us) : fits n us := by
  have key : ∀ (us : List (Nat × Blk)), (∀ u ∈ us, u.1 = n ∨ isRow h u.1) → ∀ k, n ≤ k → fits k us := by
    intro us
    induction us with
    | nil => intros; trivial
    | cons u us ih =>
      intro hu k hk
      refine ⟨?_, ih (fun v hv => hu v (List.mem_cons_of_mem _ hv)) _ (by omega)⟩
      rcases hu u (List.mem_cons_self ..) with e | ⟨_, _, _, _, e⟩
      · omega
      · have := hn _ _ e; omega
  unfold yields wq at hy
  split at hy
  · split at hy <;> try exact hy.elim
    obtain ⟨v', us', hC, rfl, rfl⟩ := hy
    cases hC with
    | plain ts0 ts bs r ha hb hs hl => exact fits_number _ _
    | over id ver len es l as' ts ys e hr _ _ _ _ => exact key _ (by simpa using .inr (rowOf_isRow hr)) n (Nat.le_refl _)
    | onto as' ts ys e _ _ _ => exact key _ (by simp) n (Nat.le_refl _)
    | exact v0 k cs as' e _ _ _ _ => exact trivial
  · split at hy <;> try exact hy.elim
    rename_i p v' us' hq
    obtain ⟨_, rfl, rfl⟩ := hy
    exact key _ (q_ids hq).1 n (Nat.le_refl _)
theorem yields_sound {x : Cx} (E : Env x c) {n n' : Nat} (hn' : h n' = none) (hS : Sat c m h tm a w) (hs : Sub h1 h) {o : Oper} {v : AV} {us : List (Nat × Blk)} (hK : yields x tm h1 n o.op v us) (hfr : ∀ u ∈ us, n ≤ u.1 → h u.1 = none) {next : Act → World → Prop} {Q : Exit → Act → World → Prop}
    (hn : ∀ rv w' m', Left c m h w m' us w' rv v → next (a.put o.dst rv) w') : o.wp c.P a w next Q := by
  unfold yields wq at hK
  split at hK
  · rename_i f as hcall
    split at hK <;> try exact hK.elim
    rename_i g cap vs hf hvs
    obtain ⟨v', us', hC, rfl, rfl⟩ := hK
    obtain ⟨dst, op, ty, pos, after, guard⟩ := o
    simp only at hcall
    cases op <;> simp only [callOf, reduceCtorEq] at hcall
    rename_i cl
    obtain ⟨callee, args, tys⟩ := cl
    cases callee <;> simp only [Option.some.injEq, Prod.mk.injEq, reduceCtorEq] at hcall
    obtain ⟨rfl, rfl⟩ := hcall
    rename_i fo
    have hfv := ev_vr hS hf
    generalize hfe : a.eval fo = rf at hfv
    obtain ⟨hl1, hg1⟩ := evs_vr hS hvs
    cases hfv with
    | fn _ caps _ hcs hcv =>
    have hbody : ∃ fn c', c.P.funcs[g]? = some fn ∧ fn.body = some c' ∧ fn.name ≠ "runtime.NumGoroutine" := by
      cases hC with
      | plain ts0 ts bs r ha hb hsp hl => exact (E.spec _ _ _ _ hsp).body
      | over id ver len es l as' ts ys e hr hlen hne ha hsp => exact (E.ap _ _ _ _ hsp).body
      | onto as' ts ys e hne ha hsp => exact (E.ap _ _ _ _ hsp).body
      | exact v0 k cs as' e hw h1 h2 hsp => exact (E.spec _ _ _ _ (hsp (List.replicate cs.length undef) (List.replicate as'.length undef) (by simp) (by simp))).body
    obtain ⟨fn, bd, hfn, hbd, hname⟩ := hbody
    have hrun : (execOp a.eval { dst, op := .call { callee := .value fo, args := args, argTypes := tys }, type := ty, pos, after, guard }).run c.P w = .ok (.enter g (args.map a.eval ++ caps)) w := by
      simp only [execOp, resolve, hfe, Deferred.ofValue, Sem.run_bind, Sem.run_pure, Result.andThen_ok, invoke]
      simp [callFunc, hfn, hname, hbd]
    unfold Oper.wp
    rw [hrun, Oper.upon_enter]
    have hsz : (args.map a.eval ++ caps).size = (vs ++ cap).length := by simp at hl1 ⊢; omega
    have hargs : ∀ (j : Nat) (v : Value) (x : AV), (args.map a.eval ++ caps)[j]? = some v → (vs ++ cap)[j]? = some x → VR m c.B h w v x := fun j v x hv hx => by
      rcases Nat.lt_or_ge j vs.length with hj | hj
      · rw [List.getElem?_append_left hj] at hx
        have hsz : j < (args.map a.eval).size := by simp at hl1 ⊢; omega
        rw [Array.getElem?_append_left hsz] at hv
        exact hg1 j v x (by rw [← Array.toList_map]; simpa using hv) hx
      · rw [List.getElem?_append_right hj] at hx
        have hsz : (args.map a.eval).size = vs.length := by simp at hl1 ⊢; omega
        rw [Array.getElem?_append_right (by omega), hsz] at hv
        exact hcv _ v x hv hx
    have hc : Calls c.P g (args.map a.eval ++ caps) w fun
      | .returned rv, w' => ∃ m', Ext m h w m' (uH h us') w' ∧ Mem c m' (uH h us') w' ∧ VR m' c.B (uH h us') w' rv v'
      | _, _ => False := by
      cases hC with
      | plain ts0 ts bs r ha hb hsp hl =>
        refine called_sound hS.mem (fun i hi1 hi2 => ?_) (argsOK_sub hs ha) hb (E.spec _ _ _ _ hsp) hl hsz hargs
        have hmem : ∀ (bs : List Blk) (n : Nat), n ≤ i → i < n + bs.length → ∃ b, (i, b) ∈ number n bs := by
          intro bs
          induction bs with
          | nil => intro n h1 h2; simp at h2; omega
          | cons b bs ih =>
            intro n h1 h2
            by_cases e : i = n
            · exact ⟨b, by rw [e]; exact List.mem_cons_self ..⟩
            · obtain ⟨b', hb'⟩ := ih (n + 1) (by omega) (by simp at h2; omega)
              exact ⟨b', List.mem_cons_of_mem _ hb'⟩
        obtain ⟨b, hb⟩ := hmem bs n hi1 hi2
        exact hfr _ hb hi1
      | over id ver len es l as' ts ys e hr hlen hne ha hsp =>
        rw [e] at hsz hargs
        exact over_sound hS.mem (rowOf_sub hs hr) hlen hne (argsOK_sub hs ha) (E.ap _ _ _ _ hsp) (by simpa using hsz) hargs
      | exact v0 k cs as' e hw h1 h2 hsp =>
        rw [e] at hsz hargs
        exact exact_sound hS.mem hw h1 h2 (fun us vs a b => E.spec _ _ _ _ (hsp us vs a b)) (by simpa using hsz) hargs
      | onto as' ts ys e hne ha hsp =>
        rw [e] at hsz hargs
        exact onto_sound hS.mem (hfr _ (List.mem_singleton.2 rfl) (Nat.le_refl _)) hne (argsOK_sub hs ha) (E.ap _ _ _ _ hsp) (by simpa using hsz) hargs
    refine hc.mono fun e w' he => ?_
    cases e with
    | panicked _ => exact he.elim
    | outgrown => exact he.elim
    | returned rv =>
      obtain ⟨m', h1, h2, h3⟩ := he
      exact hn rv w' m' ⟨h1, h2, h3⟩
  · split at hK <;> try exact hK.elim
    rename_i p v' us' hq
    obtain ⟨hp', rfl, rfl⟩ := hK
    obtain ⟨k, hk, hqk⟩ : ∃ k, h k = none ∧ q x.ti tm h1 k o.op = some (p, v', us') := by
      rcases (q_ids hq).2 with ⟨b, hb⟩ | hall
      · exact ⟨n, hfr _ hb (Nat.le_refl _), hq⟩
      · exact ⟨n', hn', hall n'⟩
    obtain ⟨rv, w', m', hrun, h1, h2, h3⟩ := q_sound E.ti hS hs hk hqk hp'
    unfold Oper.wp
    rw [hrun, Oper.upon_value]
    exact hn rv w' m' ⟨h1, h2, h3⟩
theorem sub_bound {hp : List Blk} (hs : Sub h1 (lk hp)) : ∀ i b, h1 i = some b → i < hp.length := fun i b hi => lk_lt (hs i b hi)
theorem wq_sound {x : Cx} (E : Env x c) {hp : List Blk} (hS : Sat c m (lk hp) tm a w) (hs : Sub h1 (lk hp)) {o : Oper} {K : AV → List (Nat × Blk) → Prop} (hK : wq x tm h1 hp.length o.op K) {next : Act → World → Prop} {Q : Exit → Act → World → Prop}
    (hn : ∀ v us rv w' m', K v us → fits hp.length us → Left c m (lk hp) w m' us w' rv v → next (a.put o.dst rv) w') : o.wp c.P a w next Q := by
  obtain ⟨v, us, hy, hk⟩ := yields_of hK
  exact yields_sound E (lk_none hp) hS hs hy (fun u _ hle => List.getElem?_eq_none hle) fun rv w' m' hl => hn v us rv w' m' hk (yields_fits (sub_bound hs) hy) hl
theorem wex_sound {x : Cx} (E : Env x c) {s : S} (hS : Sat c m (lk s.hp) s.tm a w) {o : Oper} (hd : ∀ t, o.dst = some t → t < c.n) {i : I} (hi : i.d = o.dst) (ho : i.op = o.op) {K : S → Prop} (hK : wex x i s K) {next : Act → World → Prop} {Q : Exit → Act → World → Prop}
    (hn : ∀ s' a' w' m', K s' → Sat c m' (lk s'.hp) s'.tm a' w' → next a' w') : o.wp c.P a w next Q := by
  unfold wex at hK
  split at hK
  · split at hK <;> try exact hK.elim
    rename_i p s' hq
    rw [hi, ho] at hq
    obtain ⟨nx, w', m1, hrun, hc⟩ := qst_sound (tm := s.tm) E.ti hS hd hq hK.1
    unfold Oper.wp
    rw [hrun]
    rcases hc with ⟨rfl, hS'⟩ | ⟨v, rfl, hS'⟩
    · exact hn _ _ _ _ hK.2 hS'
    · exact hn _ _ _ _ hK.2 hS'
  · rw [ho, hi] at hK
    refine wq_sound E hS (fun _ _ h => h) hK fun v us rv w' m' hk hf hl => ?_
    refine hn _ _ _ m' hk ?_
    rw [lk_upds us s.hp hf]
    exact hl.sat hS o.dst hd
theorem tmps_get (hS : Sat c m h tm a w) {t : Nat} {v : AV} (hv : gt tm t = some v) : ∃ rv, a.tmps[t]? = some rv ∧ VR m c.B h w rv v := by
  obtain ⟨hlt, hv'⟩ := hS.tmps t v (gt_some hv)
  exact ⟨a.tmps[t], by simp [hlt], by simpa [Array.getD, hlt] using hv'⟩
theorem dstIn_spec {n : Nat} {o : Oper} (h : dstIn n o = true) : ∀ t, o.dst = some t → t < n := fun t ht => by
  unfold dstIn at h
  rw [ht] at h
  simpa using h
theorem wops_sound {x : Cx} (E : Env x c) {ops : Array Oper} {K : S → Prop} {Q : Exit → Act → World → Prop} (hn : ∀ s' a' w' m', K s' → Sat c m' (lk s'.hp) s'.tm a' w' → Q .normal a' w') :
    ∀ (r : List Oper) (k : Nat) (l : List I) (s : S) (m : Mp) (a : Act) (w : World), ops.toList.drop k = r → trIs c.n ops.toList r = some l → Sat c m (lk s.hp) s.tm a w → wops x l s K → wpOps c.P ops Q (List.range' k r.length) a w
  | [], k, l, s, m, a, w, hd, ht, hS, hK => by
    simp [trIs] at ht
    subst ht
    exact hn _ _ _ _ hK hS
  | o :: r, k, l, s, m, a, w, hd, ht, hS, hK => by
    simp only [trIs] at ht
    split at ht <;> simp only [Option.some.injEq, reduceCtorEq] at ht
    rename_i i is hi his
    subst ht
    have hget : ops[k]? = some o := by
      have : ops.toList[k]? = some o := by
        have := congrArg (fun l => l[0]?) hd
        simpa using this
      simpa using this
    have hd' : ops.toList.drop (k + 1) = r := by
      rw [← List.drop_drop, hd]
      rfl
    have ih := fun s m a w => wops_sound E hn r (k + 1) is s m a w hd' his
    simp only [List.length_cons, List.range'_succ, wpOps, hget]
    unfold trI at hi
    split at hi <;> try cases hi
    rename_i hdi
    have hdst := dstIn_spec hdi
    cases hg : o.guard with
    | none =>
      rw [hg] at hi
      simp only [Option.some.injEq] at hi
      subst hi
      simp only [wops] at hK
      rw [if_pos (by simp [Region.wanted, hg])]
      exact .inl (wex_sound E hS hdst rfl rfl hK fun s' a' w' m' hk hS' => ih s' m' a' w' hS' hk)
    | some gw =>
      obtain ⟨j, want⟩ := gw
      rw [hg] at hi
      simp only at hi
      split at hi <;> simp only [Option.some.injEq, reduceCtorEq] at hi
      rename_i t ht
      subst hi
      simp only [wops] at hK
      have hput : ∀ m a w, Sat c m (lk s.hp) s.tm a w → Sat c m (lk s.hp) (pt s.tm o.dst (some (.tup []))) (a.put o.dst undef) w := fun m a w h => h.put o.dst hdst (.tup #[] [] rfl (by simp))
      split at hK <;> try exact hK.elim
      rotate_left
      · rename_i hy
        obtain ⟨rv, hrv, hvr⟩ := tmps_get hS hy
        have hyv : yielded ops a.tmps j = none := by
          unfold dstAt at ht
          have ht' : (ops[j]?).bind (·.dst) = some t := by simpa using ht
          unfold yielded
          rw [ht']
          simp only [Option.bind_some, hrv]
          cases hvr
          rfl
        have hw : Region.wanted o (yielded ops a.tmps) = false := by
          unfold Region.wanted
          rw [hg]
          simp only [hyv]
          rfl
        rw [hw]
        exact ih ⟨_, _⟩ m _ w (hput m a w hS) hK
      rename_i y lb hy
      obtain ⟨rv, hrv, hvr⟩ := tmps_get hS hy
      have hyv : yielded ops a.tmps j = some y := by
        unfold dstAt at ht
        have ht' : (ops[j]?).bind (·.dst) = some t := by simpa using ht
        unfold yielded
        rw [ht']
        simp only [Option.bind_some, hrv]
        cases hvr with
        | t _ _ _ hr => cases hr; rfl
      have hw : Region.wanted o (yielded ops a.tmps) = (y == want) := by
        unfold Region.wanted
        rw [hg]
        simp only [hyv]
        cases y <;> cases want <;> rfl
      rw [hw]
      cases hb : (y == want) with
      | true => exact .inl (wex_sound E hS hdst rfl rfl (hK.1 hb) fun s' a' w' m' hk hS' => ih s' m' a' w' hS' hk)
      | false => exact ih ⟨_, _⟩ m _ w (hput m a w hS) (hK.2 hb)
end
end Go.Proofs.YtgkmhmhbepfiaaaDoor.Pm
set_option linter.all false
namespace Go.Proofs.YtgkmhmhbepfiaaaDoor.Pm
open Go Go.RowKit
theorem rowOf_at {h h' : H} {id : Nat} (e : h id = h' id) (ver : Nat) : rowOf h id ver = rowOf h' id ver := by unfold rowOf; rw [e]
theorem varOf_at {h h' : H} {id : Nat} (e : h id = h' id) : varOf h id = varOf h' id := by unfold varOf; rw [e]
def Same (l : List Nat) (h h' : H) : Prop := ∀ id ∈ l, h id = h' id
theorem Same.mono {l l' : List Nat} {h h' : H} (hs : Same l h h') (hl : ∀ i ∈ l', i ∈ l) : Same l' h h' := fun i hi => hs i (hl i hi)
theorem elems_foot {h h' : H} {v : AV} (hs : Same v.id1 h h') : elems h v = elems h' v := by
  cases v
  case t x l => cases x <;> rfl
  all_goals simp only [elems]
  case row id ver off len => rw [rowOf_at (hs id (by simp [AV.id1]))]
  case vs id off len z => rw [varOf_at (hs id (by simp [AV.id1]))]
theorem id1_ids {v : AV} : ∀ i ∈ v.id1, i ∈ v.ids := fun i hi => by
  cases v <;> first | exact hi | (simp [AV.id1] at hi)
theorem id1_id2 {v : AV} : ∀ i ∈ v.id1, i ∈ v.id2 := fun i hi => by
  cases v <;> first | exact hi | (simp [AV.id1] at hi)
theorem id1s_id2s : ∀ {vs : List AV}, ∀ i ∈ id1s vs, i ∈ id2s vs
  | v :: vs, i, hi => by
    rcases List.mem_append.1 hi with hi | hi
    · exact List.mem_append_left _ (id1_id2 i hi)
    · exact List.mem_append_right _ (id1s_id2s i hi)
theorem id2_ids {v : AV} : ∀ i ∈ v.id2, i ∈ v.ids := fun i hi => by
  cases v <;> first | exact hi | exact id1s_id2s i hi
theorem id1s_t (l : Bool) : ∀ (xs : List T), id1s (xs.map (AV.t · l)) = []
  | [] => rfl
  | x :: xs => by simp only [List.map_cons, id1s, AV.id1, List.nil_append]; exact id1s_t l xs
theorem emb_foot {h h' : H} {v : AV} (hs : Same v.id1 h h') : emb h v = emb h' v := by
  cases v <;> simp only [emb]
  case row id ver off len => rw [rowOf_at (hs id (by simp [AV.id1]))]
theorem embs_foot {h h' : H} : ∀ {vs : List AV}, Same (id1s vs) h h' → embs h vs = embs h' vs
  | [], _ => rfl
  | v :: vs, hs => by
    simp only [embs]
    rw [emb_foot (hs.mono fun i hi => List.mem_append_left _ hi), embs_foot (hs.mono fun i hi => List.mem_append_right _ hi)]
theorem cells_ids {v : AV} {cs : List AV} (hc : v.cells = some cs) : ∀ i ∈ id1s cs, i ∈ v.ids := fun i hi => by
  cases v
  case agg cs' => simp only [AV.cells, Option.some.injEq] at hc; subst hc; exact hi
  case t x l =>
    cases x <;> simp only [AV.cells, Option.some.injEq, reduceCtorEq] at hc <;> subst hc
    all_goals first
      | (rw [id1s_t] at hi; cases hi; done)
      | (simp [id1s, AV.id1] at hi; done)
  all_goals first
    | (simp only [AV.cells, Option.some.injEq] at hc; subst hc; simp only [id1s, List.append_nil] at hi; exact id1_ids i hi)
    | (simp only [AV.cells, Option.some.injEq] at hc; subst hc; simp [id1s, AV.id1] at hi; done)
    | (simp [AV.cells] at hc; done)
theorem fillS_foot {h h' : H} {tm : Tm} {z : Nat} : ∀ {ps : List (Nat × Operand)} {es : List (List T)}, Same (idsPs tm ps) h h' → fillS h tm z ps es = fillS h' tm z ps es
  | [], _, _ => rfl
  | (k, o) :: ps, es, hs => by
    simp only [fillS]
    cases hv : ev tm o with
    | none => rfl
    | some v =>
      simp only
      cases hc : v.cells with
      | none => rfl
      | some cs =>
        simp only
        have e1 : embs h cs = embs h' cs := embs_foot (hs.mono fun i hi => List.mem_append_left _ (by rw [hv]; exact cells_ids hc i hi))
        have e2 := fun es => fillS_foot (z := z) (es := es) (hs.mono (l' := idsPs tm ps) fun i hi => List.mem_append_right _ hi)
        rw [e1]
        simp only [e2]
theorem qLoad_foot {ti : Nat → Option TI} {h h' : H} {t : Nat} {v : AV} (hs : Same v.ids h h') : qLoad ti h t v = qLoad ti h' t v := by
  unfold qLoad
  cases ti t with
  | none => rfl
  | some i =>
    cases v
    case t x l => cases x <;> first | rfl | (rename_i D x; cases x <;> rfl)
    case ptr id off => simp only [varOf_at (hs id (by simp [AV.ids, AV.id1]))]
    case eptr id ver i j => simp only [rowOf_at (hs id (by simp [AV.ids, AV.id1]))]
    all_goals rfl
theorem qSlice_foot {ti : Nat → Option TI} {tm : Tm} {h h' : H} {t : Nat} {v : AV} {lo hi mx : Option Operand} (hs : Same v.ids h h') : qSlice ti tm h t v lo hi mx = qSlice ti tm h' t v lo hi mx := by
  unfold qSlice
  cases v
  case t x l => cases x <;> rfl
  case ptr id off => simp only [varOf_at (hs id (by simp [AV.ids, AV.id1]))]
  case row id ver off len => simp only [rowOf_at (hs id (by simp [AV.ids, AV.id1]))]
  all_goals rfl
theorem qIxA_foot {ti : Nat → Option TI} {h h' : H} {t : Nat} {v : AV} {p : Int} (hs : Same v.ids h h') : qIxA ti h t v p = qIxA ti h' t v p := by
  unfold qIxA
  cases v
  case t x l => cases x <;> first | rfl | (rename_i D x; cases x <;> rfl)
  case row id ver off len => simp only [rowOf_at (hs id (by simp [AV.ids, AV.id1]))]
  all_goals rfl
theorem qAppend_foot {ti : Nat → Option TI} {h h' : H} {n t : Nat} {v u : AV} (h1 : Same v.ids h h') (h2 : Same u.ids h h') : qAppend ti h n t v u = qAppend ti h' n t v u := by
  unfold qAppend
  rw [elems_foot (h2.mono id1_ids)]
  cases elemOfS ti t with
  | none => rfl
  | some i =>
    cases elems h' u with
    | none => rfl
    | some p =>
      cases v
      case t x l => cases x <;> rfl
      case row id ver off len => simp only [rowOf_at (h1 id (by simp [AV.ids, AV.id1]))]
      all_goals rfl
theorem qGrow_foot {ti : Nat → Option TI} {h h' : H} {n t t' : Nat} {v u : AV} (h1 : Same v.ids h h') : qGrow ti h n t t' v u = qGrow ti h' n t t' v u := by
  unfold qGrow
  cases v
  case row id ver off len => simp only [rowOf_at (h1 id (by simp [AV.ids, AV.id1]))]
  all_goals rfl
theorem evs_ids {tm : Tm} : ∀ {l : List Operand} {vs : List AV}, evs tm l = some vs → ∀ v ∈ vs, ∀ i ∈ v.ids, i ∈ idsOs tm l
  | [], vs, h => by simp [evs] at h; subst h; simp
  | o :: l, vs, h => by
    simp only [evs] at h
    split at h <;> simp only [Option.some.injEq, reduceCtorEq] at h
    rename_i v vs' h1 h2
    subst h
    intro u hu i hi
    simp only [idsOs]
    rcases List.mem_cons.1 hu with rfl | hu
    · exact List.mem_append_left _ (by rw [h1]; exact hi)
    · exact List.mem_append_right _ (evs_ids h2 u hu i hi)
theorem q_foot {ti : Nat → Option TI} {tm : Tm} {h h' : H} {n : Nat} {op : Op} (hs : Same (foot tm op) h h') : q ti tm h n op = q ti tm h' n op := by
  cases op <;> simp only [foot] at hs <;> simp only [q]
  case load t a =>
    cases hv : ev tm a with
    | none => rfl
    | some v => exact qLoad_foot (by rw [hv] at hs; exact hs)
  case slice t a lo hi mx =>
    cases hv : ev tm a with
    | none => rfl
    | some v => exact qSlice_foot (by rw [hv] at hs; exact hs)
  case indexAddr t a b =>
    cases hv : ev tm a with
    | none => rfl
    | some v =>
      cases ev tm b with
      | none => rfl
      | some u =>
        cases u <;> try rfl
        rename_i x l
        cases x <;> try rfl
        exact qIxA_foot (by rw [hv] at hs; exact hs)
  case convert src dst a =>
    cases hv : ev tm a with
    | none =>
      cases ti src with
      | none => rfl
      | some i =>
        cases ti dst with
        | none => rfl
        | some j =>
          obtain ⟨d, _, _, _⟩ := i
          obtain ⟨d', _, _, _⟩ := j
          cases d <;> cases d' <;> rfl
    | some v =>
      rw [hv] at hs
      have e : emb h v = emb h' v := emb_foot (hs.mono id1_ids)
      have e2 : elems h v = elems h' v := elems_foot (hs.mono id1_ids)
      cases v
      case row id ver off len =>
        cases ti src with
        | none => rfl
        | some i =>
          cases ti dst with
          | none => rfl
          | some j =>
            obtain ⟨d, _, _, _⟩ := i
            obtain ⟨d', _, _, _⟩ := j
            cases d <;> cases d' <;> first | rfl | (simp only [e2]; done) | simp only [e]
      case t x l =>
        cases ti src with
        | none => rfl
        | some i =>
          cases ti dst with
          | none => rfl
          | some j =>
            obtain ⟨d, _, _, _⟩ := i
            obtain ⟨d', _, _, _⟩ := j
            cases x <;> cases d <;> cases d' <;> first | rfl | simp only [e2]
      all_goals
        (cases ti src with
        | none => rfl
        | some i =>
          cases ti dst with
          | none => rfl
          | some j =>
            obtain ⟨d, _, _, _⟩ := i
            obtain ⟨d', _, _, _⟩ := j
            cases d <;> cases d' <;> first | rfl | simp only [e2])
  case buildSlice t len ps =>
    have e := fun z es => fillS_foot (z := z) (es := es) hs
    simp only [e]
  case call cl =>
    obtain ⟨callee, args, tys⟩ := cl
    cases callee <;> simp only
    rename_i b
    cases hv : evs tm args.toList with
    | none => rfl
    | some vs =>
      simp only
      have hids := evs_ids hv
      have hs' : ∀ v ∈ vs, Same v.ids h h' := fun v hm i hi => hs i (by simpa using hids v hm i hi)
      cases b <;> try rfl
      simp only [qBuiltin]
      split
      · split
        · exact qAppend_foot (hs' _ (by simp)) (hs' _ (by simp))
        · exact qGrow_foot (hs' _ (by simp))
      · rfl
theorem arg1_foot {h h' : H} {v : AV} {y : T} (hs : Same v.id1 h h') : arg1 h v y = arg1 h' v y := by
  cases v <;> simp only [arg1]
  case row id ver off len => rw [elems_foot hs]
  case vs id off len z => rw [elems_foot hs]
  case ptr id off => rw [varOf_at (hs id (by simp [AV.id1]))]
theorem argCs_foot {h h' : H} : ∀ {cs : List AV} {p : List T}, Same (id1s cs) h h' → argCs h cs p → argCs h' cs p
  | [], _, _, ha => ha
  | v :: vs, p, hs, ha => by
    obtain ⟨y, ys, e, h1, h2⟩ := ha
    exact ⟨y, ys, e, by rw [← arg1_foot (hs.mono fun i hi => List.mem_append_left _ hi)]; exact h1, argCs_foot (hs.mono fun i hi => List.mem_append_right _ hi) h2⟩
theorem argOK_foot {h h' : H} {v : AV} {y : T} (hs : Same v.id2 h h') (ha : argOK h v y) : argOK h' v y := by
  cases v <;> simp only [argOK] at ha ⊢
  case agg cs => obtain ⟨p, e, h1⟩ := ha; exact ⟨p, e, argCs_foot hs h1⟩
  case fn f cs => obtain ⟨p, e, h1⟩ := ha; exact ⟨p, e, argCs_foot hs h1⟩
  all_goals (rw [← arg1_foot (hs.mono id1_id2)]; exact ha)
theorem argsOK_foot {h h' : H} : ∀ {vs : List AV} {p : List T}, (∀ v ∈ vs, Same v.id2 h h') → argsOK h vs p → argsOK h' vs p
  | [], _, _, ha => ha
  | v :: vs, p, hs, ha => by
    obtain ⟨y, ys, e, h1, h2⟩ := ha
    exact ⟨y, ys, e, argOK_foot (hs v (List.mem_cons_self ..)) h1, argsOK_foot (fun u hu => hs u (List.mem_cons_of_mem _ hu)) h2⟩
theorem called_foot {x : Cx} {h h' : H} {n g : Nat} {as : List AV} (hs : ∀ v ∈ as, Same v.id2 h h') {v : AV} {us : List (Nat × Blk)} (hC : Called x h n g as v us) : Called x h' n g as v us := by
  cases hC with
  | plain ts0 ts bs r ha hb hsp hl => exact .plain ts0 ts bs r (argsOK_foot hs ha) hb hsp hl
  | over id ver len es l as' ts ys e hr hlen hne ha hsp =>
    subst e
    exact .over id ver len es l as' ts ys rfl (by rw [← rowOf_at (hs _ (List.mem_cons_self ..) id (by simp [AV.id2, AV.id1]))]; exact hr) hlen hne (argsOK_foot (fun u hu => hs u (List.mem_cons_of_mem _ hu)) ha) hsp
  | exact v0 k cs as' e hw h1 h2 hs' =>
    subst e
    exact .exact v0 k cs as' rfl hw h1 h2 hs'
  | onto as' ts ys e hne ha hsp =>
    subst e
    exact .onto as' ts ys rfl hne (argsOK_foot (fun u hu => hs u (List.mem_cons_of_mem _ hu)) ha) hsp
theorem id2s_mem : ∀ {cs : List AV} {v : AV}, v ∈ cs → ∀ i ∈ v.id2, i ∈ id2s cs
  | c :: cs, v, hv, i, hi => by
    simp only [id2s]
    rcases List.mem_cons.1 hv with rfl | hv
    · exact List.mem_append_left _ hi
    · exact List.mem_append_right _ (id2s_mem hv i hi)
theorem yields_foot {x : Cx} {tm : Tm} {h h' : H} {n : Nat} {op : Op} {v : AV} {us : List (Nat × Blk)} (hs : Same (foot tm op) h h') (hy : yields x tm h n op v us) : yields x tm h' n op v us := by
  unfold yields wq at hy ⊢
  rw [← q_foot hs]
  cases hc : callOf op with
  | none => rw [hc] at hy; exact hy
  | some p =>
    obtain ⟨f, as⟩ := p
    rw [hc] at hy
    cases op <;> simp only [callOf, reduceCtorEq] at hc
    rename_i cl
    obtain ⟨callee, args, tys⟩ := cl
    cases callee <;> simp only [Option.some.injEq, Prod.mk.injEq, reduceCtorEq] at hc
    obtain ⟨rfl, rfl⟩ := hc
    rename_i f
    simp only at hy ⊢
    simp only [foot] at hs
    split at hy <;> try exact hy.elim
    rename_i g cap vs hf hvs
    obtain ⟨v', us', hC, e⟩ := hy
    refine ⟨v', us', called_foot (fun u hu i hi => ?_) hC, e⟩
    rcases List.mem_append.1 hu with hu | hu
    · exact hs i (List.mem_append_right _ (evs_ids hvs u hu i (id2_ids i hi)))
    · exact hs i (List.mem_append_left _ (by rw [hf]; exact id2s_mem hu i hi))
theorem qw_foot {ti : Nat → Option TI} {tm : Tm} {h h' : H} {d : Option Nat} {op : Op} (hs : Same (foot tm op) h h') : qw ti tm h d op = qw ti tm h' d op := by
  cases op <;> simp only [foot] at hs <;> simp only [qw]
  case store t a b =>
    cases d with
    | some d => rfl
    | none =>
      cases ha : ev tm a with
      | none => rfl
      | some p =>
        cases hb : ev tm b with
        | none => rfl
        | some u =>
          rw [ha, hb] at hs
          have : qStore ti h t p u = qStore ti h' t p u := by
            unfold qStore
            cases ti t with
            | none => rfl
            | some i =>
              cases u.cells with
              | none => rfl
              | some cs =>
                cases p
                case t x l => rfl
                case ptr id off => simp only [varOf_at (hs id (by simp [idsO, AV.ids, AV.id1]))]
                case eptr id ver i j => simp only [rowOf_at (hs id (by simp [idsO, AV.ids, AV.id1]))]
                all_goals rfl
          simp only [this]
  case call cl =>
    obtain ⟨callee, args, tys⟩ := cl
    cases callee <;> try rfl
    rename_i b
    cases b <;> try rfl
    simp only
    cases hv : evs tm args.toList with
    | none => rfl
    | some vs =>
      have hids := evs_ids hv
      have hs' : ∀ v ∈ vs, Same v.ids h h' := fun v hm i hi => hs i (by simpa using hids v hm i hi)
      match vs, hs' with
      | [], _ => rfl
      | [_], _ => rfl
      | _ :: _ :: _ :: _, _ => rfl
      | [p, u], hs' =>
        have key : ∀ t, qCopy ti h t p u = qCopy ti h' t p u := fun t => by
          unfold qCopy
          rw [elems_foot ((hs' u (by simp)).mono id1_ids)]
          cases p
          case vs id off len z =>
            cases elems h' u with
            | none => rfl
            | some r =>
              obtain ⟨xs, l⟩ := r
              cases elemOfS ti t with
              | none => rfl
              | some i => simp only [varOf_at (h := h) (h' := h') (id := id) (hs' _ (List.mem_cons_self ..) id (by simp [AV.ids, AV.id1]))]
          all_goals rfl
        cases tys.toList with
        | nil => rfl
        | cons t ts =>
          cases ts with
          | nil => rfl
          | cons t' ts =>
            cases ts with
            | nil => simp only [key t]
            | cons _ _ => rfl
theorem qw_some {ti : Nat → Option TI} {tm : Tm} {h : H} {d : Option Nat} {op : Op} {p : Prop} {v : Option AV} {id : Nat} {b : Blk} (hq : qw ti tm h d op = some (p, v, id, b)) : (h id).isSome = true := by
  have hv : ∀ {id : Nat} {cs : List AV}, varOf h id = some cs → (h id).isSome = true := fun {id cs} e => by
    unfold varOf at e
    split at e <;> try cases e
    rename_i e'; rw [e']; rfl
  have hr : ∀ {id ver : Nat} {r : Nat × List (List T) × Bool}, rowOf h id ver = some r → (h id).isSome = true := fun {id ver r} e => by
    obtain ⟨z, es, l⟩ := r
    rw [rowOf_some e]; rfl
  cases op <;> simp only [qw, reduceCtorEq] at hq
  case store t a b =>
    split at hq <;> try (cases hq; done)
    split at hq <;> simp only [Option.some.injEq, Prod.mk.injEq, reduceCtorEq] at hq
    rename_i hqs
    obtain ⟨rfl, rfl, rfl, rfl⟩ := hq
    unfold qStore at hqs
    split at hqs <;> try (cases hqs; done)
    split at hqs <;> try (cases hqs; done)
    · split at hqs <;> simp only [Option.some.injEq, Prod.mk.injEq, reduceCtorEq] at hqs
      rename_i e
      obtain ⟨_, rfl, _⟩ := hqs
      exact hv e
    · split at hqs <;> simp only [Option.some.injEq, Prod.mk.injEq, reduceCtorEq] at hqs
      rename_i e _
      obtain ⟨_, rfl, _⟩ := hqs
      exact hr e
  case call cl =>
    split at hq <;> try (cases hq; done)
    split at hq <;> simp only [Option.some.injEq, Prod.mk.injEq, reduceCtorEq] at hq
    rename_i hqc
    obtain ⟨rfl, rfl, rfl, rfl⟩ := hq
    unfold qCopy at hqc
    split at hqc <;> try (cases hqc; done)
    split at hqc <;> simp only [Option.some.injEq, Prod.mk.injEq, reduceCtorEq] at hqc
    rename_i e
    obtain ⟨_, _, rfl, _⟩ := hqc
    exact hv e
end Go.Proofs.YtgkmhmhbepfiaaaDoor.Pm
set_option linter.all false
namespace Go.Proofs.YtgkmhmhbepfiaaaDoor.Pm
open Go Go.RowKit
structure Rc where
  v : Option AV
  us : List (Nat × Blk)
  sk : Bool
def stepS (d : Option Nat) (ρ : Rc) (s : S) : S := ⟨pt s.tm d ρ.v, upds s.hp ρ.us⟩
inductive Fact (x : Cx) (o : I) (s : S) : Rc → Prop
  | wr (p : Prop) (v : Option AV) (id : Nat) (b : Blk) (h1 : isSt o.op = true) (h2 : o.g = none) (h3 : qw x.ti s.tm (lk s.hp) o.d o.op = some (p, v, id, b)) (h4 : p) : Fact x o s ⟨v, [(id, b)], false⟩
  | ran (v : AV) (us : List (Nat × Blk)) (h1 : o.g = none ∨ ∃ t want l, o.g = some (t, want) ∧ gt s.tm t = some (.t (.b want) l)) (h2 : yields x s.tm (lk s.hp) s.hp.length o.op v us) : Fact x o s ⟨some v, us, false⟩
  | skip (t : Nat) (want l : Bool) (h1 : o.g = some (t, want)) (h2 : gt s.tm t = some (.t (.b (!want)) l) ∨ gt s.tm t = some (.tup [])) : Fact x o s ⟨some (.tup []), [], true⟩
theorem set_upds {hp : List Blk} {id : Nat} {b : Blk} (h : (lk hp id).isSome = true) : hp.set id b = upds hp [(id, b)] := by
  obtain ⟨b0, hb⟩ := Option.isSome_iff_exists.1 h
  simp only [upds, upd1, if_pos (lk_lt hb)]
theorem lex_of {x : Cx} {K : S → Prop} : ∀ (l : List D) (k : Nat) (lg : Lg) (s : S), wdraw x l k lg s K →
    ∃ (tr : Nat → Rc) (st : Nat → S) (lgs : Nat → Lg), st 0 = s ∧ lgs 0 = lg ∧ K (st l.length) ∧ ∀ i o, l[i]? = some o → Fact x o.i (st i) (tr i) ∧ st (i + 1) = stepS o.i.d (tr i) (st i) ∧
      (((tr i).us = [] ∧ (tr i).sk = true) ∧ lgs (i + 1) = lgs i ∨ free o.na (foot (st i).tm o.i.op) (fsts (tr i).us) (lgs i) = true ∧ lgs (i + 1) = (k + i, fsts (tr i).us, foot (st i).tm o.i.op) :: lgs i)
  | [], k, lg, s, h => ⟨fun _ => ⟨none, [], true⟩, fun _ => s, fun _ => lg, rfl, rfl, h, by simp⟩
  | o :: r, k, lg, s, h => by
    have cons : ∀ (ρ : Rc) (lg' : Lg), Fact x o.i s ρ → ((ρ.us = [] ∧ ρ.sk = true) ∧ lg' = lg ∨ free o.na (foot s.tm o.i.op) (fsts ρ.us) lg = true ∧ lg' = (k, fsts ρ.us, foot s.tm o.i.op) :: lg) → wdraw x r (k + 1) lg' (stepS o.i.d ρ s) K →
        ∃ (tr : Nat → Rc) (st : Nat → S) (lgs : Nat → Lg), st 0 = s ∧ lgs 0 = lg ∧ K (st (o :: r).length) ∧ ∀ i o', (o :: r)[i]? = some o' → Fact x o'.i (st i) (tr i) ∧ st (i + 1) = stepS o'.i.d (tr i) (st i) ∧
          (((tr i).us = [] ∧ (tr i).sk = true) ∧ lgs (i + 1) = lgs i ∨ free o'.na (foot (st i).tm o'.i.op) (fsts (tr i).us) (lgs i) = true ∧ lgs (i + 1) = (k + i, fsts (tr i).us, foot (st i).tm o'.i.op) :: lgs i) := by
      intro ρ lg' hf hlg hr
      obtain ⟨tr, st, lgs, h1, h2, h3, h4⟩ := lex_of r (k + 1) lg' _ hr
      refine ⟨fun i => match i with | 0 => ρ | i + 1 => tr i, fun i => match i with | 0 => s | i + 1 => st i, fun i => match i with | 0 => lg | i + 1 => lgs i, rfl, rfl, h3, fun i o' ho => ?_⟩
      cases i with
      | zero =>
        simp only [List.getElem?_cons_zero, Option.some.injEq] at ho
        subst ho
        refine ⟨hf, h1, ?_⟩
        simp only [h2, Nat.add_zero]
        exact hlg
      | succ i =>
        obtain ⟨g1, g2, g3⟩ := h4 i o' (by simpa using ho)
        refine ⟨g1, g2, ?_⟩
        simp only
        rw [show k + (i + 1) = k + 1 + i by omega]
        exact g3
    unfold wdraw at h
    cases hst : isSt o.i.op with
    | true =>
      rw [hst] at h
      simp only at h
      split at h <;> try exact h.elim
      rename_i p v id b hg hq
      refine cons ⟨v, [(id, b)], false⟩ _ (.wr p v id b hst hg hq h.1) (.inr ⟨h.2.1, rfl⟩) ?_
      unfold stepS
      rw [← set_upds (qw_some hq)]
      exact h.2.2
    | false =>
      rw [hst] at h
      simp only at h
      split at h
      · rename_i hg
        obtain ⟨v, us, hy, hu, hr⟩ := yields_of h
        exact cons ⟨some v, us, false⟩ _ (.ran v us (.inl hg) hy) (.inr ⟨hu, rfl⟩) hr
      · rename_i t want hg
        split at h <;> try exact h.elim
        rotate_left
        · rename_i hy
          exact cons ⟨some (.tup []), [], true⟩ lg (.skip t want true hg (.inr hy)) (.inl ⟨⟨rfl, rfl⟩, rfl⟩) h
        rename_i y lb hy
        by_cases hw : y = want
        · subst hw
          obtain ⟨v, us, hy', hu, hr⟩ := yields_of (h.1 (by simp))
          exact cons ⟨some v, us, false⟩ _ (.ran v us (.inr ⟨t, y, lb, hg, hy⟩) hy') (.inr ⟨hu, rfl⟩) hr
        · have hne : (y == want) = false := by simpa using hw
          have hv : y = !want := by cases y <;> cases want <;> simp_all
          exact cons ⟨some (.tup []), [], true⟩ lg (.skip t want lb hg (.inl (by rw [hy, hv]))) (.inl ⟨⟨rfl, rfl⟩, rfl⟩) (h.2 hne)
theorem bit_eq (m i : Nat) : bit m i = m.testBit i := by
  have h : Nat.land (Nat.shiftRight m i) 1 = (m >>> i) % 2 := Nat.and_one_is_mod _
  unfold bit
  rw [h, Nat.testBit_eq_decide_div_mod_eq, Nat.shiftRight_eq_div_pow]
  rcases Nat.mod_two_eq_zero_or_one (m / 2 ^ i) with e | e <;> rw [e] <;> rfl
theorem bit_msk (f : Nat → Nat) (i : Nat) : ∀ l : List Nat, (bit (msk f l) i = true ↔ ∃ d ∈ l, i = d ∨ bit (f d) i = true)
  | [] => by simp [msk, bit_eq]
  | d :: r => by
    have h1 : Nat.lor (Nat.lor (Nat.pow 2 d) (f d)) (msk f r) = ((2 ^ d ||| f d) ||| msk f r) := rfl
    rw [msk, h1, bit_eq, Nat.testBit_or, Nat.testBit_or, Nat.testBit_two_pow, ← bit_eq, ← bit_eq, Bool.or_eq_true, Bool.or_eq_true, bit_msk f i r]
    simp only [decide_eq_true_eq, List.mem_cons, exists_eq_or_imp]
    rw [@eq_comm _ i d]
theorem befs_get : ∀ (l : List Oper) (acc : List Nat), (befs l acc).take acc.length = acc ∧ (befs l acc).length = acc.length + l.length ∧ ∀ (j : Nat) (o : Oper), l[j]? = some o →
    (befs l acc).getD (acc.length + j) 0 = msk (fun d => ((befs l acc).take (acc.length + j)).getD d 0) (ons o)
  | [], acc => by simp [befs]
  | o :: l, acc => by
    simp only [befs]
    obtain ⟨h1, h2, h3⟩ := befs_get l (acc ++ [msk (fun d => acc.getD d 0) (ons o)])
    generalize hr : befs l (acc ++ [msk (fun d => acc.getD d 0) (ons o)]) = R at *
    have h1' : R.take acc.length = acc := by
      have := congrArg (List.take acc.length) h1
      rw [List.take_take] at this
      simpa using this
    refine ⟨h1', by rw [h2]; simp; omega, fun j o' ho => ?_⟩
    cases j with
    | zero =>
      simp only [List.getElem?_cons_zero, Option.some.injEq] at ho
      subst ho
      rw [Nat.add_zero, h1']
      have h5 : R[acc.length]? = some (msk (fun d => acc.getD d 0) (ons o)) := by
        have h4 : (R.take (acc.length + 1))[acc.length]? = R[acc.length]? := List.getElem?_take_of_lt (by omega)
        rw [← h4]
        have h6 := h1
        rw [List.length_append, List.length_singleton] at h6
        rw [h6]
        simp
      rw [List.getD_eq_getElem?_getD, h5]
      rfl
    | succ j =>
      have := h3 j o' (by simpa using ho)
      rw [List.length_append, List.length_singleton] at this
      rw [show acc.length + (j + 1) = acc.length + 1 + j by omega]
      exact this
theorem msk_same {f g : Nat → Nat} : ∀ {l : List Nat}, (∀ d ∈ l, f d = g d) → msk f l = msk g l
  | [], _ => rfl
  | a :: l, h => by
    rw [msk, msk, h a (List.mem_cons_self ..), msk_same fun d hd => h d (List.mem_cons_of_mem _ hd)]
theorem mem_ons {o : Oper} {d : Nat} : d ∈ ons o ↔ ∃ e ∈ o.after, Region.binds .any e = true ∧ e.on = d := by
  simp [ons, and_assoc]
theorem apAll_spec {ops : List Oper} {m : Nat} {o : Oper} : ∀ (l : List Oper) (k : Nat), apAll ops m o k l = true → ∀ i p, l[i]? = some p → bit m (k + i) = false → apart ops p o = true
  | [], k, _, i, p, hp, _ => by simp at hp
  | q :: r, k, h, i, p, hp, hb => by
    rw [apAll] at h
    cases i with
    | zero =>
      simp only [List.getElem?_cons_zero, Option.some.injEq] at hp
      subst hp
      rw [Nat.add_zero] at hb
      rw [hb] at h
      simp only [Bool.and_eq_true] at h
      exact h.1
    | succ i =>
      have h' : apAll ops m o (k + 1) r = true := by
        split at h
        · exact h
        · simp only [Bool.and_eq_true] at h
          exact h.2
      exact apAll_spec r (k + 1) h' i p (by simpa using hp) (by rw [show k + 1 + i = k + (i + 1) by omega]; exact hb)
theorem drawAll_spec {ops : List Oper} {bs : List Nat} {n : Nat} : ∀ (l : List Oper) (k : Nat), drawAll ops bs n k l = true → ∀ j o, l[j]? = some o → drawAt ops bs n (k + j) o = true
  | [], k, _, i, p, hp => by simp at hp
  | q :: r, k, h, i, p, hp => by
    simp only [drawAll, Bool.and_eq_true] at h
    cases i with
    | zero =>
      simp only [List.getElem?_cons_zero, Option.some.injEq] at hp
      subst hp
      exact h.1
    | succ i => rw [show k + (i + 1) = k + 1 + i by omega]; exact drawAll_spec r (k + 1) h.2 i p (by simpa using hp)
structure Rg (ops : Array Oper) (bs : Nat → List Nat) : Prop where
  dep : ∀ (j : Nat) (o : Oper), ops[j]? = some o → ∀ e ∈ o.after, Region.binds .any e = true → e.on < j ∧ e.on ∈ bs j
  bsd : ∀ (j : Nat) (o : Oper), ops[j]? = some o → ∀ i ∈ bs j, ∃ e ∈ o.after, Region.binds .any e = true ∧ (i = e.on ∨ i ∈ bs e.on)
  sub : ∀ (j : Nat) (o : Oper), ops[j]? = some o → ∀ e ∈ o.after, Region.binds .any e = true → ∀ k ∈ bs e.on, k ∈ bs j
  grd : ∀ (j : Nat) (o : Oper) (g : Nat) (want : Bool), ops[j]? = some o → o.guard = some (g, want) → g ∈ bs j
  sel : ∀ (j : Nat) (o : Oper), ops[j]? = some o → isSel o.op = false
  ap : ∀ (j i : Nat) (o p : Oper), ops[j]? = some o → ops[i]? = some p → i < j → i ∉ bs j → apart ops.toList p o = true
def bsF (ops : List Oper) (j : Nat) : List Nat := (List.range ops.length).filter fun i => bit ((befs ops []).getD j 0) i
theorem mem_bsF {ops : List Oper} {j i : Nat} : i ∈ bsF ops j ↔ i < ops.length ∧ bit ((befs ops []).getD j 0) i = true := by
  simp [bsF]
theorem rg_of {ops : Array Oper} (h : drawOK ops.toList = true) : Rg ops (bsF ops.toList) := by
  unfold drawOK at h
  have lt : ∀ (j : Nat) (o : Oper), ops[j]? = some o → j < ops.toList.length := fun j o ho => by have := (Array.getElem?_eq_some_iff.1 ho).1; simpa using this
  have at' : ∀ (j : Nat) (o : Oper), ops[j]? = some o → drawAt ops.toList (befs ops.toList []) ops.toList.length j o = true := fun j o ho => by
    have := drawAll_spec _ 0 h j o (by simpa using ho)
    rwa [Nat.zero_add] at this
  have parts : ∀ (j : Nat) (o : Oper), ops[j]? = some o → isSel o.op = false ∧ (∀ e ∈ o.after, Region.binds .any e = true → e.on < j) ∧ (∀ g want, o.guard = some (g, want) → g ∈ bsF ops.toList j) ∧
      ∀ i p, ops[i]? = some p → i < j → i ∉ bsF ops.toList j → apart ops.toList p o = true := fun j o ho => by
    have := at' j o ho
    unfold drawAt at this
    simp only [Bool.and_eq_true, Bool.not_eq_true', List.all_eq_true] at this
    obtain ⟨⟨⟨h1, h2⟩, h3⟩, h4⟩ := this
    refine ⟨h1, fun e he hb => by have := h2 e.on (mem_ons.2 ⟨e, he, hb, rfl⟩); simpa [Nat.blt_eq] using this, fun g want hg => ?_, fun i p hp hij hni => ?_⟩
    · rw [hg] at h3
      simp only [Bool.and_eq_true] at h3
      exact mem_bsF.2 ⟨by simpa [Nat.blt_eq] using h3.1, h3.2⟩
    · have hi := lt i p hp
      refine apAll_spec _ 0 h4 i p (by rw [List.getElem?_take_of_lt hij]; simpa using hp) ?_
      rw [Nat.zero_add]
      cases hb : bit ((befs ops.toList []).getD j 0) i
      · rfl
      · exact absurd (mem_bsF.2 ⟨hi, hb⟩) hni
  obtain ⟨_, hlen, hget⟩ := befs_get ops.toList []
  have get : ∀ (j : Nat) (o : Oper), ops[j]? = some o → (befs ops.toList []).getD j 0 = msk (fun d => (befs ops.toList []).getD d 0) (ons o) := fun j o ho => by
    have := hget j o (by simpa using ho)
    simp only [List.length_nil, Nat.zero_add] at this
    rw [this]
    refine msk_same fun d hd => ?_
    obtain ⟨e, he, hb, rfl⟩ := mem_ons.1 hd
    have hlt := (parts j o ho).2.1 e he hb
    rw [List.getD_eq_getElem?_getD, List.getD_eq_getElem?_getD, List.getElem?_take_of_lt hlt]
  refine ⟨fun j o ho e he hb => ⟨(parts j o ho).2.1 e he hb, ?_⟩, fun j o ho i hi => ?_, fun j o ho e he hb k hk => ?_, fun j o g want ho hg => (parts j o ho).2.2.1 g want hg, fun j o ho => (parts j o ho).1, fun j i o p ho hp hij hni => (parts j o ho).2.2.2 i p hp hij hni⟩
  · refine mem_bsF.2 ⟨Nat.lt_trans ((parts j o ho).2.1 e he hb) (lt j o ho), ?_⟩
    rw [get j o ho]
    exact (bit_msk _ _ _).2 ⟨e.on, mem_ons.2 ⟨e, he, hb, rfl⟩, .inl rfl⟩
  · obtain ⟨hl, hb⟩ := mem_bsF.1 hi
    rw [get j o ho] at hb
    obtain ⟨d, hd, h⟩ := (bit_msk _ _ _).1 hb
    obtain ⟨e, he, hbd, rfl⟩ := mem_ons.1 hd
    exact ⟨e, he, hbd, h.imp id fun h => mem_bsF.2 ⟨hl, h⟩⟩
  · obtain ⟨hl, hk⟩ := mem_bsF.1 hk
    refine mem_bsF.2 ⟨hl, ?_⟩
    rw [get j o ho]
    exact (bit_msk _ _ _).2 ⟨e.on, mem_ons.2 ⟨e, he, hb, rfl⟩, .inr hk⟩
theorem Rg.lt {ops : Array Oper} {bs : Nat → List Nat} (R : Rg ops bs) : ∀ (j : Nat) (o : Oper), ops[j]? = some o → ∀ i ∈ bs j, i < j := by
  intro j
  induction j using Nat.strongRecOn with
  | ind j ih =>
    intro o ho i hi
    obtain ⟨e, he, hb, h⟩ := R.bsd j o ho i hi
    have hlt := (R.dep j o ho e he hb).1
    rcases h with rfl | h
    · exact hlt
    · have hj := (Array.getElem?_eq_some_iff.1 ho).1
      have hel : e.on < ops.size := by omega
      exact Nat.lt_trans (ih e.on hlt ops[e.on] (by simp [hel]) i h) hlt
theorem Rg.trans {ops : Array Oper} {bs : Nat → List Nat} (R : Rg ops bs) : ∀ (j : Nat) (o : Oper), ops[j]? = some o → ∀ s ∈ bs j, ∀ i ∈ bs s, i ∈ bs j := by
  intro j
  induction j using Nat.strongRecOn with
  | ind j ih =>
    intro o ho s hs i hi
    have sub := R.sub j o ho
    obtain ⟨e, he, hb, h⟩ := R.bsd j o ho s hs
    have hlt := (R.dep j o ho e he hb).1
    have hj := (Array.getElem?_eq_some_iff.1 ho).1
    have hel : e.on < ops.size := by omega
    rcases h with rfl | h
    · exact sub e he hb i hi
    · exact sub e he hb i (ih e.on hlt ops[e.on] (by simp [hel]) s h i hi)
theorem upds_length : ∀ (us : List (Nat × Blk)) (hp : List Blk), fits hp.length us → hp.length ≤ (upds hp us).length ∧ (∀ i, i < (upds hp us).length → i < hp.length ∨ ∃ u ∈ us, u.1 = i) ∧ ∀ u ∈ us, u.1 < (upds hp us).length
  | [], hp, _ => ⟨Nat.le_refl _, fun i hi => .inl hi, fun u hu => by cases hu⟩
  | u :: us, hp, hf => by
    obtain ⟨g1, g2⟩ := lk_upd1 hp u hf.1
    obtain ⟨h1, h2, h3⟩ := upds_length us (upd1 hp u) (by rw [g2]; exact hf.2)
    have hle := hf.1
    simp only [upds]
    refine ⟨by omega, fun i hi => ?_, fun v hv => ?_⟩
    · rcases h2 i hi with h | ⟨v, hv, e⟩
      · by_cases hil : i < hp.length
        · exact .inl hil
        · exact .inr ⟨u, List.mem_cons_self .., by omega⟩
      · exact .inr ⟨v, List.mem_cons_of_mem _ hv, e⟩
    · rcases List.mem_cons.1 hv with rfl | hv
      · omega
      · exact h3 v hv
theorem uH_same (h h' : H) (id : Nat) : ∀ (us : List (Nat × Blk)), h id = h' id → uH h us id = uH h' us id
  | [], e => e
  | u :: us, e => by
    rw [uH_cons, uH_cons]
    refine uH_same _ _ id us ?_
    simp only [setH, e]
theorem setH_comm (h : H) {i j : Nat} (a b : Blk) (hne : i ≠ j) : setH (setH h i a) j b = setH (setH h j b) i a := by
  funext k
  simp only [setH]
  by_cases h1 : k = i
  · have h2 : k ≠ j := fun e => hne (h1.symm.trans e)
    simp only [if_pos h1, if_neg h2]
  · simp only [if_neg h1]
theorem setH_uH (i : Nat) (a : Blk) : ∀ (us : List (Nat × Blk)) (h : H), (∀ u ∈ us, u.1 ≠ i) → uH (setH h i a) us = setH (uH h us) i a
  | [], _, _ => rfl
  | u :: us, h, hu => by
    rw [uH_cons, uH_cons, ← setH_uH i a us _ fun v hv => hu v (List.mem_cons_of_mem _ hv)]
    rw [setH_comm h a u.2 (Ne.symm (hu u (List.mem_cons_self ..)))]
theorem uH_comm : ∀ (us vs : List (Nat × Blk)) (h : H), (∀ u ∈ us, ∀ v ∈ vs, u.1 ≠ v.1) → uH (uH h us) vs = uH (uH h vs) us
  | [], vs, h, _ => rfl
  | u :: us, vs, h, hd => by
    rw [uH_cons, uH_cons, uH_comm us vs _ fun a ha b hb => hd a (List.mem_cons_of_mem _ ha) b hb, setH_uH _ _ vs h fun v hv => Ne.symm (hd u (List.mem_cons_self ..) v hv)]
theorem pt_comm (tm : Tm) {d e : Option Nat} (x y : Option AV) (h : ∀ t, d = some t → e ≠ some t) : pt (pt tm d x) e y = pt (pt tm e y) d x := by
  cases d with
  | none => rfl
  | some d =>
    cases e with
    | none => rfl
    | some e =>
      have hne : d ≠ e := fun he => h d rfl (he ▸ rfl)
      funext t
      simp only [pt, up]
      by_cases h1 : t = d
      · have h2 : t ≠ e := fun e' => hne (h1.symm.trans e')
        simp only [if_pos h1, if_neg h2]
      · simp only [if_neg h1]
theorem pt_ne (tm : Tm) {d : Option Nat} (x : Option AV) {t : Nat} (h : d ≠ some t) : pt tm d x t = tm t := by
  cases d with
  | none => rfl
  | some d =>
    simp only [pt, up]
    rw [if_neg fun e => h (by rw [e])]
theorem inN_mem {i : Nat} : ∀ {l : List Nat}, inN i l = true ↔ i ∈ l
  | [] => by simp [inN]
  | j :: l => by simp [inN, inN_mem (l := l)]
theorem offN_spec : ∀ {l m : List Nat}, offN l m = true → ∀ i ∈ l, i ∉ m
  | j :: l, m, h, i, hi => by
    simp only [offN, Bool.and_eq_true, Bool.not_eq_true'] at h
    rcases List.mem_cons.1 hi with rfl | hi
    · intro hm
      have := inN_mem.2 hm
      rw [h.1] at this
      cases this
    · exact offN_spec h.2 i hi
theorem free_spec {na ft us : List Nat} : ∀ {lg : Lg}, free na ft us lg = true → ∀ k w f, (k, w, f) ∈ lg → k ∈ na → (∀ i ∈ w, i ∉ ft) ∧ (∀ i ∈ w, i ∉ us) ∧ ∀ i ∈ f, i ∉ us
  | (k0, w0, f0) :: lg, h, k, w, f, hm, hk => by
    simp only [free, Bool.and_eq_true, Bool.or_eq_true, Bool.not_eq_true'] at h
    rcases List.mem_cons.1 hm with e | hm
    · simp only [Prod.mk.injEq] at e
      obtain ⟨rfl, rfl, rfl⟩ := e
      rcases h.1 with h1 | h1
      · have := inN_mem.2 hk
        rw [h1] at this
        cases this
      · exact ⟨offN_spec h1.1.1, offN_spec h1.1.2, offN_spec h1.2⟩
    · exact free_spec h.2 k w f hm hk
theorem fsts_mem {us : List (Nat × Blk)} {i : Nat} : i ∈ fsts us ↔ ∃ u ∈ us, u.1 = i := by
  induction us with
  | nil => simp [fsts]
  | cons u us ih => simp only [fsts, List.mem_cons, ih, exists_eq_or_imp]; exact ⟨fun h => h.imp Eq.symm id, fun h => h.imp Eq.symm id⟩
abbrev TH := Tm × H
def act (d : Option Nat) (ρ : Rc) (s : TH) : TH := (pt s.1 d ρ.v, uH s.2 ρ.us)
def dsts (ops : Array Oper) (k : Nat) : Option Nat := (ops[k]?).bind (·.dst)
def Fd (ops : Array Oper) (tr : Nat → Rc) (s0 : S) (D : Nat → Bool) : Nat → TH
  | 0 => (s0.tm, lk s0.hp)
  | k + 1 => if D k = true then act (dsts ops k) (tr k) (Fd ops tr s0 D k) else Fd ops tr s0 D k
structure Wsq (x : Cx) (ops : Array Oper) (bs : Nat → List Nat) (n : Nat) (tr : Nat → Rc) (st : Nat → S) : Prop where
  dst : ∀ (k : Nat) (o : Oper), ops[k]? = some o → ∀ t : Nat, o.dst = some t → t < n
  step : ∀ (k : Nat) (o : Oper), ops[k]? = some o → st (k + 1) = stepS o.dst (tr k) (st k)
  fact : ∀ (k : Nat) (o : Oper), ops[k]? = some o → ∃ I, trI n ops.toList o = some I ∧ Fact x I (st k) (tr k)
  free : ∀ (i k : Nat) (p o : Oper), ops[i]? = some p → ops[k]? = some o → i < k → i ∉ bs k → (∀ u ∈ (tr i).us, u.1 ∉ foot (st k).tm o.op ∨ (tr k).us = [] ∧ (tr k).sk = true) ∧ (∀ u ∈ (tr i).us, ∀ u' ∈ (tr k).us, u.1 ≠ u'.1) ∧ ∀ u' ∈ (tr k).us, u'.1 ∉ foot (st i).tm p.op ∨ (tr i).us = [] ∧ (tr i).sk = true
theorem Fact.fits {x : Cx} {o : I} {s : S} {ρ : Rc} (h : Fact x o s ρ) : fits s.hp.length ρ.us := by
  cases h with
  | wr p v id b h1 h2 h3 h4 =>
    obtain ⟨b0, hb⟩ := Option.isSome_iff_exists.1 (qw_some h3)
    exact ⟨Nat.le_of_lt (lk_lt hb), trivial⟩
  | ran v us h1 h2 => exact yields_fits (fun i b hi => lk_lt hi) h2
  | skip => exact trivial
section
variable {x : Cx} {ops : Array Oper} {bs : Nat → List Nat} {n : Nat} {tr : Nat → Rc} {st : Nat → S}
theorem getO {ops : Array Oper} {k : Nat} (h : k < ops.size) : ∃ o, ops[k]? = some o := ⟨ops[k], by simp [h]⟩
theorem Wsq.fits (Q : Wsq x ops bs n tr st) {k : Nat} {o : Oper} (ho : ops[k]? = some o) : fits (st k).hp.length (tr k).us := by
  obtain ⟨_, _, hf⟩ := Q.fact k o ho
  exact hf.fits
theorem Wsq.len (Q : Wsq x ops bs n tr st) {k : Nat} {o : Oper} (ho : ops[k]? = some o) : (st k).hp.length ≤ (st (k + 1)).hp.length := by
  rw [Q.step k o ho]
  exact (upds_length _ _ (Q.fits ho)).1
theorem Wsq.mono (Q : Wsq x ops bs n tr st) : ∀ {j k : Nat}, j ≤ k → k ≤ ops.size → (st j).hp.length ≤ (st k).hp.length := by
  intro j k hjk
  induction k with
  | zero => intro _; obtain rfl : j = 0 := by omega
            exact Nat.le_refl _
  | succ k ih =>
    intro hk
    by_cases e : j = k + 1
    · subst e; exact Nat.le_refl _
    · obtain ⟨o, ho⟩ := getO (ops := ops) (k := k) (by omega)
      exact Nat.le_trans (ih (by omega) (by omega)) (Q.len ho)
theorem Fd_true (Q : Wsq x ops bs n tr st) {s0 : S} (h0 : st 0 = s0) (D : Nat → Bool) : ∀ k, k ≤ ops.size → (∀ i, i < k → D i = true) → Fd ops tr s0 D k = ((st k).tm, lk (st k).hp)
  | 0, _, _ => by rw [h0]; rfl
  | k + 1, hk, hD => by
    obtain ⟨o, ho⟩ := getO (ops := ops) (k := k) (by omega)
    rw [Fd, if_pos (hD k (by omega)), Fd_true Q h0 D k (by omega) (fun i hi => hD i (by omega)), Q.step k o ho]
    have hd : dsts ops k = o.dst := by simp [dsts, ho]
    simp only [act, stepS, hd, Prod.mk.injEq, true_and]
    exact (lk_upds _ _ (Q.fits ho)).symm
def Closed (ops : Array Oper) (bs : Nat → List Nat) (D : Nat → Bool) : Prop := ∀ (j : Nat) (o : Oper), ops[j]? = some o → D j = true → ∀ i ∈ bs j, D i = true
variable {s0 : S} {D : Nat → Bool} {j : Nat} {oj : Oper}
theorem later (R : Rg ops bs) (hC : Closed ops bs D) (hj : ops[j]? = some oj) (hnD : D j = false) {k : Nat} {ok : Oper} (hk : ops[k]? = some ok) (hjk : j < k) (hD : D k = true) : j ∉ bs k ∧ apart ops.toList oj ok = true := by
  have hni : j ∉ bs k := fun h => by rw [hC k ok hk hD j h] at hnD; cases hnD
  exact ⟨hni, R.ap k j ok oj hk hj hjk hni⟩
theorem apart_looks {p o : Oper} {l : List Oper} (h : apart l p o = true) : (∀ d, p.dst = some d → d ∉ looks l o ∧ o.dst ≠ some d) ∧ ∀ d, o.dst = some d → d ∉ looks l p := by
  unfold apart at h
  simp only [Bool.and_eq_true] at h
  refine ⟨fun d hd => ?_, fun d hd => ?_⟩
  · have := h.1
    rw [hd] at this
    simpa using this
  · have := h.2
    rw [hd] at this
    simpa using this
theorem tm_at (Q : Wsq x ops bs n tr st) (R : Rg ops bs) (h0 : st 0 = s0) (hC : Closed ops bs D) (hj : ops[j]? = some oj) (hnD : D j = false) (hr : ∀ i ∈ bs j, D i = true) {t : Nat} (ht : t ∈ looks ops.toList oj) :
    ∀ k, k ≤ ops.size → (Fd ops tr s0 D k).1 t = (st (min k j)).tm t
  | 0, _ => by rw [Nat.zero_min, h0]; rfl
  | k + 1, hk => by
    have ih := tm_at Q R h0 hC hj hnD hr ht k (by omega)
    obtain ⟨o, ho⟩ := getO (ops := ops) (k := k) (by omega)
    have hd : dsts ops k = o.dst := by simp [dsts, ho]
    rcases Nat.lt_or_ge k j with hkj | hkj
    · rw [Nat.min_eq_left (by omega)] at ih
      rw [Nat.min_eq_left (by omega), Fd, Q.step k o ho]
      by_cases hD : D k = true
      · rw [if_pos hD]
        simp only [act, stepS, hd]
        by_cases e' : o.dst = some t
        · rw [e']; simp [pt, up]
        · rw [pt_ne _ _ e', pt_ne _ _ e', ih]
      · rw [if_neg hD]
        have hni : k ∉ bs j := fun h => hD (hr k h)
        have a1 := R.ap j k oj o hj ho hkj hni
        have hne : o.dst ≠ some t := fun e => ((apart_looks a1).1 t e).1 ht
        simp only [stepS]
        rw [pt_ne _ _ hne, ih]
    · rw [Nat.min_eq_right hkj] at ih
      rw [Nat.min_eq_right (by omega), Fd]
      by_cases hD : D k = true
      · rw [if_pos hD]
        have hjk : j < k := by
          rcases Nat.eq_or_lt_of_le hkj with e | h
          · subst e; rw [hnD] at hD; cases hD
          · exact h
        obtain ⟨_, a1⟩ := later R hC hj hnD ho hjk hD
        have hne : o.dst ≠ some t := fun e => (apart_looks a1).2 t e ht
        simp only [act, hd]
        rw [pt_ne _ _ hne, ih]
      · rw [if_neg hD, ih]
theorem h_at (Q : Wsq x ops bs n tr st) (R : Rg ops bs) (h0 : st 0 = s0) (hC : Closed ops bs D) (hj : ops[j]? = some oj) (hnD : D j = false) (hr : ∀ i ∈ bs j, D i = true) (hran : ¬ ((tr j).us = [] ∧ (tr j).sk = true)) {id : Nat}
    (hid : id ∈ foot (st j).tm oj.op) : ∀ k, k ≤ ops.size → (Fd ops tr s0 D k).2 id = lk (st (min k j)).hp id
  | 0, _ => by rw [Nat.zero_min, h0]; rfl
  | k + 1, hk => by
    have ih := h_at Q R h0 hC hj hnD hr hran hid k (by omega)
    obtain ⟨o, ho⟩ := getO (ops := ops) (k := k) (by omega)
    rcases Nat.lt_or_ge k j with hkj | hkj
    · rw [Nat.min_eq_left (by omega)] at ih
      rw [Nat.min_eq_left (by omega), Fd, Q.step k o ho]
      by_cases hD : D k = true
      · rw [if_pos hD]
        simp only [act, stepS]
        rw [lk_upds _ _ (Q.fits ho)]
        exact uH_same _ _ _ _ ih
      · rw [if_neg hD]
        have hni : k ∉ bs j := fun h => hD (hr k h)
        simp only [stepS]
        rw [lk_upds _ _ (Q.fits ho), uH_ne _ _ fun u hu e' => ?_, ih]
        rcases (Q.free k j o oj ho hj hkj hni).1 u hu with h | h
        · exact h (by rw [e']; exact hid)
        · exact hran h
    · rw [Nat.min_eq_right hkj] at ih
      rw [Nat.min_eq_right (by omega), Fd]
      by_cases hD : D k = true
      · rw [if_pos hD]
        have hjk : j < k := by
          rcases Nat.eq_or_lt_of_le hkj with e | h
          · subst e; rw [hnD] at hD; cases hD
          · exact h
        obtain ⟨hni, _⟩ := later R hC hj hnD ho hjk hD
        simp only [act]
        rw [uH_ne _ _ fun u hu e' => ?_, ih]
        rcases (Q.free j k oj o hj ho hjk hni).2.2 u hu with h | h
        · exact h (by rw [e']; exact hid)
        · exact hran h
      · rw [if_neg hD, ih]
theorem new_at (Q : Wsq x ops bs n tr st) (R : Rg ops bs) (h0 : st 0 = s0) (hC : Closed ops bs D) (hj : ops[j]? = some oj) (hnD : D j = false) {id : Nat} (hu : ∃ u ∈ (tr j).us, u.1 = id) (hid : (st j).hp.length ≤ id) :
    ∀ k, k ≤ ops.size → (Fd ops tr s0 D k).2 id = none
  | 0, _ => by
    have := Q.mono (j := 0) (k := j) (by omega) (by have := (Array.getElem?_eq_some_iff.1 hj).1; omega)
    show lk s0.hp id = none
    rw [h0] at this
    exact List.getElem?_eq_none (by omega)
  | k + 1, hk => by
    have ih := new_at Q R h0 hC hj hnD hu hid k (by omega)
    obtain ⟨o, ho⟩ := getO (ops := ops) (k := k) (by omega)
    obtain ⟨u, hu1, hu2⟩ := hu
    have hjs := (Array.getElem?_eq_some_iff.1 hj).1
    rw [Fd]
    by_cases hD : D k = true
    · rw [if_pos hD]
      have hne : k ≠ j := fun e => by subst e; rw [hnD] at hD; cases hD
      simp only [act]
      rw [uH_ne _ _ fun u' hu' e' => ?_, ih]
      rcases Nat.lt_or_ge k j with hkj | hkj
      · have h1 : u'.1 < (st (k + 1)).hp.length := by
          rw [Q.step k o ho]
          exact (upds_length _ _ (Q.fits ho)).2.2 u' hu'
        have := Q.mono (j := k + 1) (k := j) (by omega) (by omega)
        omega
      · obtain ⟨hni, _⟩ := later R hC hj hnD ho (by omega) hD
        exact (Q.free j k oj o hj ho (by omega) hni).2.1 u hu1 u' hu' (by rw [hu2, e'])
    · rw [if_neg hD, ih]
theorem Fd_set (Q : Wsq x ops bs n tr st) (R : Rg ops bs) (hC : Closed ops bs D) (hj : ops[j]? = some oj) (hnD : D j = false) {D' : Nat → Bool} (hD' : ∀ k, D' k = if k = j then true else D k) :
    ∀ k, k ≤ ops.size → Fd ops tr s0 D' k = if k ≤ j then Fd ops tr s0 D k else act (dsts ops j) (tr j) (Fd ops tr s0 D k)
  | 0, _ => by rw [if_pos (by omega)]; rfl
  | k + 1, hk => by
    have ih := Fd_set Q R hC hj hnD hD' k (by omega)
    obtain ⟨o, ho⟩ := getO (ops := ops) (k := k) (by omega)
    have hd : dsts ops k = o.dst := by simp [dsts, ho]
    have hdj : dsts ops j = oj.dst := by simp [dsts, hj]
    rw [Fd, Fd]
    rcases Nat.lt_trichotomy k j with hkj | rfl | hkj
    · have e : D' k = D k := by rw [hD' k, if_neg (by omega)]
      rw [e, if_pos (show k + 1 ≤ j by omega), ih, if_pos (show k ≤ j by omega)]
    · have e : D' k = true := by rw [hD' k, if_pos rfl]
      rw [e, if_pos rfl, if_neg (show ¬ k + 1 ≤ k by omega), ih, if_pos (Nat.le_refl _), hnD]
      simp
    · have e : D' k = D k := by rw [hD' k, if_neg (by omega)]
      rw [e, if_neg (show ¬ k + 1 ≤ j by omega), ih, if_neg (show ¬ k ≤ j by omega)]
      by_cases hD : D k = true
      · rw [if_pos hD, if_pos hD]
        obtain ⟨hni, a1⟩ := later R hC hj hnD ho hkj hD
        obtain ⟨b1, b2⟩ := apart_looks a1
        have hdd : ∀ t, oj.dst = some t → o.dst ≠ some t := fun t ht => (b1 t ht).2
        simp only [act, hd, hdj]
        rw [pt_comm _ _ _ hdd, uH_comm _ _ _ (Q.free j k oj o hj ho hkj hni).2.1]
      · rw [if_neg hD, if_neg hD]
end
theorem evs_congr {tm tm' : Tm} : ∀ {l : List Operand}, (∀ o ∈ l, ev tm o = ev tm' o) → evs tm l = evs tm' l
  | [], _ => rfl
  | o :: l, h => by
    simp only [evs]
    rw [h o (List.mem_cons_self ..), evs_congr fun p hp => h p (List.mem_cons_of_mem _ hp)]
theorem fills_congr {ti : Nat → Option TI} {tm tm' : Tm} {t : Nat} : ∀ {ps : List (Nat × Operand)} {cs : List AV}, (∀ p ∈ ps, ev tm p.2 = ev tm' p.2) → fills ti tm t ps cs = fills ti tm' t ps cs
  | [], _, _ => rfl
  | (k, o) :: ps, cs, h => by
    simp only [fills]
    have h1 := h (k, o) (List.mem_cons_self ..)
    simp only at h1
    rw [h1]
    have ih := fun cs => fills_congr (ti := ti) (t := t) (cs := cs) fun p hp => h p (List.mem_cons_of_mem (k, o) hp)
    simp only [ih]
theorem fillS_congr {h1 : H} {tm tm' : Tm} {z : Nat} : ∀ {ps : List (Nat × Operand)} {es : List (List T)}, (∀ p ∈ ps, ev tm p.2 = ev tm' p.2) → fillS h1 tm z ps es = fillS h1 tm' z ps es
  | [], _, _ => rfl
  | (k, o) :: ps, es, h => by
    simp only [fillS]
    have h2 := h (k, o) (List.mem_cons_self ..)
    simp only at h2
    rw [h2]
    have ih := fun es => fillS_congr (h1 := h1) (z := z) (es := es) fun p hp => h p (List.mem_cons_of_mem (k, o) hp)
    simp only [ih]
theorem bound_congr {tm tm' : Tm} {d : Nat} {o : Option Operand} (h : ∀ x, o = some x → ev tm x = ev tm' x) : bound tm d o = bound tm' d o := by
  cases o with
  | none => rfl
  | some x => simp only [bound]; rw [h x rfl]
theorem q_congr {ti : Nat → Option TI} {tm tm' : Tm} {h1 : H} {n : Nat} {op : Op} (h : ∀ o ∈ op.operands, ev tm o = ev tm' o) : q ti tm h1 n op = q ti tm' h1 n op := by
  cases op <;> simp only [Op.operands] at h <;> simp only [q]
  case slice t a lo hi mx =>
    rw [h a (by simp)]
    have hb : ∀ d, bound tm d lo = bound tm' d lo := fun d => bound_congr fun x e => h x (by simp [e])
    have hb2 : ∀ d, bound tm d hi = bound tm' d hi := fun d => bound_congr fun x e => h x (by simp [e])
    have hb3 : ∀ d, bound tm d mx = bound tm' d mx := fun d => bound_congr fun x e => h x (by simp [e])
    cases ev tm' a with
    | none => rfl
    | some v => simp only [qSlice, hb, hb2, hb3]
  case build t ps =>
    have e := fun cs => fills_congr (ti := ti) (t := t) (cs := cs) (ps := ps.toList) (tm := tm) (tm' := tm') fun p hp => h p.2 (by simp; exact ⟨p.1, by simpa using hp⟩)
    simp only [e]
  case buildSlice t len ps =>
    have e := fun z es => fillS_congr (h1 := h1) (z := z) (es := es) (ps := ps.toList) (tm := tm) (tm' := tm') fun p hp => h p.2 (by simp; exact ⟨p.1, by simpa using hp⟩)
    simp only [e]
  case makeFunc f a cap => rw [evs_congr (l := cap.toList) fun o ho => h o (by simp; exact .inr (by simpa using ho))]
  case call cl =>
    obtain ⟨callee, args, tys⟩ := cl
    cases callee <;> simp only
    rw [evs_congr (l := args.toList) fun o ho => h o (by simp [Call.operands]; simpa using ho)]
  all_goals first
    | rfl
    | (rw [h _ (by simp)]; done)
    | (rw [h _ (by simp), h _ (by simp)]; done)
    | (simp only [List.mem_toArray, List.mem_cons, List.not_mem_nil, or_false, forall_eq_or_imp, forall_eq] at h; simp only [h])
theorem yields_congr {x : Cx} {tm tm' : Tm} {h1 : H} {n : Nat} {op : Op} {v : AV} {us : List (Nat × Blk)} (h : ∀ o ∈ op.operands, ev tm o = ev tm' o) (hy : yields x tm h1 n op v us) : yields x tm' h1 n op v us := by
  unfold yields wq at hy ⊢
  rw [← q_congr h]
  cases hc : callOf op with
  | none => rw [hc] at hy; exact hy
  | some p =>
    obtain ⟨f, as⟩ := p
    rw [hc] at hy
    cases op <;> simp only [callOf, reduceCtorEq] at hc
    rename_i cl
    obtain ⟨callee, args, tys⟩ := cl
    cases callee <;> simp only [Option.some.injEq, Prod.mk.injEq, reduceCtorEq] at hc
    obtain ⟨rfl, rfl⟩ := hc
    rename_i f
    simp only
    rw [← h f (by simp [Op.operands, Call.operands]), ← evs_congr (tm := tm) (tm' := tm') (l := args.toList) fun o ho => h o (by simp [Op.operands, Call.operands]; exact .inr (by simpa using ho))]
    exact hy
def un (D : Nat → Bool) : Nat → Nat
  | 0 => 0
  | k + 1 => un D k + (if D k = true then 0 else 1)
theorem un_zero {D : Nat → Bool} : ∀ {n : Nat}, un D n = 0 → ∀ k, k < n → D k = true
  | n + 1, h, k, hk => by
    simp only [un] at h
    by_cases e : k = n
    · subst e
      refine Classical.byContradiction fun hd => ?_
      rw [if_neg hd] at h
      omega
    · exact un_zero (D := D) (n := n) (by omega) k (by omega)
theorem un_set {D D' : Nat → Bool} {j : Nat} (hj : D j = false) (h : ∀ k, D' k = if k = j then true else D k) : ∀ n, un D n = un D' n + (if j < n then 1 else 0)
  | 0 => rfl
  | n + 1 => by
    simp only [un]
    rw [un_set hj h n, h n]
    by_cases e : n = j
    · subst e
      simp [hj]
    · rw [if_neg e]
      by_cases h1 : j < n
      · rw [if_pos h1, if_pos (show j < n + 1 by omega)]; omega
      · rw [if_neg h1, if_neg (show ¬ j < n + 1 by omega)]; omega
theorem trD_get {nt : Nat} {ops : List Oper} {bs : List Nat} : ∀ (r : List Oper) (j : Nat) (l : List D), trD nt ops bs j r = some l → l.length = r.length ∧ ∀ (i : Nat) (o : Oper), r[i]? = some o →
    ∃ I, trI nt ops o = some I ∧ l[i]? = some ⟨I, (List.range (j + i)).filter (fun k => !bit (bs.getD (j + i) 0) k)⟩
  | [], j, l, h => by simp [trD] at h; subst h; simp
  | o :: r, j, l, h => by
    simp only [trD] at h
    split at h <;> simp only [Option.some.injEq, reduceCtorEq] at h
    rename_i I is h1 h2
    subst h
    obtain ⟨g1, g2⟩ := trD_get r (j + 1) is h2
    refine ⟨by simp [g1], fun i o' ho => ?_⟩
    cases i with
    | zero =>
      simp only [List.getElem?_cons_zero, Option.some.injEq] at ho
      subst ho
      exact ⟨I, h1, by rw [Nat.add_zero]; rfl⟩
    | succ i =>
      obtain ⟨I', e1, e2⟩ := g2 i o' (by simpa using ho)
      refine ⟨I', e1, ?_⟩
      rw [List.getElem?_cons_succ, e2, show j + 1 + i = j + (i + 1) by omega]
theorem trI_spec {nt : Nat} {ops : List Oper} {o : Oper} {I : I} (h : trI nt ops o = some I) : I.d = o.dst ∧ I.op = o.op ∧ (∀ t, o.dst = some t → t < nt) ∧ ((o.guard = none ∧ I.g = none) ∨ ∃ g want t, o.guard = some (g, want) ∧ dstAt ops g = some t ∧ I.g = some (t, want)) := by
  unfold trI at h
  split at h <;> try cases h
  rename_i hd
  split at h
  · rename_i hg
    simp only [Option.some.injEq] at h
    subst h
    exact ⟨rfl, rfl, dstIn_spec hd, .inl ⟨hg, rfl⟩⟩
  · rename_i g want hg
    split at h <;> simp only [Option.some.injEq, reduceCtorEq] at h
    rename_i t ht
    subst h
    exact ⟨rfl, rfl, dstIn_spec hd, .inr ⟨g, want, t, hg, ht, rfl⟩⟩
section
variable {P : Program} {w w' : World} {c : Ct} {m m' m1 : Mp} {h h' h1 : H} {tm : Tm} {a : Act}
theorem seq_of {x : Cx} {ops : Array Oper} {l : List D} (ht : trD c.n ops.toList (befs ops.toList []) 0 ops.toList = some l) {s : S} {K : S → Prop} (hW : wdraw x l 0 [] s K) :
    ∃ tr st, Wsq x ops (bsF ops.toList) c.n tr st ∧ st 0 = s ∧ K (st ops.size) := by
  obtain ⟨tr, st, lgs, h1, h2, h3, h4⟩ := lex_of l 0 [] s hW
  obtain ⟨g1, g2⟩ := trD_get _ _ _ ht
  have hlen : l.length = ops.size := by simpa using g1
  have key : ∀ (k : Nat) (o : Oper), ops[k]? = some o → ∃ I, trI c.n ops.toList o = some I ∧ Fact x I (st k) (tr k) ∧ st (k + 1) = stepS I.d (tr k) (st k) ∧
      (((tr k).us = [] ∧ (tr k).sk = true) ∧ lgs (k + 1) = lgs k ∨ free ((List.range k).filter fun i => !bit ((befs ops.toList []).getD k 0) i) (foot (st k).tm I.op) (fsts (tr k).us) (lgs k) = true ∧ lgs (k + 1) = (k, fsts (tr k).us, foot (st k).tm I.op) :: lgs k) := fun k o ho => by
    obtain ⟨I, e1, e2⟩ := g2 k o (by simpa using ho)
    rw [Nat.zero_add] at e2
    obtain ⟨f1, f2, f3⟩ := h4 k _ e2
    rw [Nat.zero_add] at f3
    exact ⟨I, e1, f1, f2, f3⟩
  -- what is logged
  have hlog : ∀ k, k ≤ ops.size → ∀ i (p : Oper), i < k → ops[i]? = some p → ((tr i).us = [] ∧ (tr i).sk = true) ∨ (i, fsts (tr i).us, foot (st i).tm p.op) ∈ lgs k := by
    intro k
    induction k with
    | zero => intro _ i p hi; omega
    | succ k ih =>
      intro hk i p hi hp
      obtain ⟨o, ho⟩ := getO (ops := ops) (k := k) (by omega)
      obtain ⟨I, e1, f1, f2, f3⟩ := key k o ho
      by_cases e : i = k
      · subst e
        rw [ho] at hp
        simp only [Option.some.injEq] at hp
        subst hp
        obtain ⟨_, i2, _, _⟩ := trI_spec e1
        rcases f3 with ⟨f3, f4⟩ | ⟨_, f3⟩
        · exact .inl f3
        · right
          rw [f3, i2]
          exact List.mem_cons_self ..
      · rcases ih (by omega) i p (by omega) hp with h | h
        · exact .inl h
        · right
          rcases f3 with ⟨_, f3⟩ | ⟨_, f3⟩
          · rw [f3]; exact h
          · rw [f3]; exact List.mem_cons_of_mem _ h
  refine ⟨tr, st, ⟨fun k o ho => ?_, fun k o ho => ?_, fun k o ho => ?_, fun i k p o hp ho hik hni => ?_⟩, h1, by rw [← hlen]; exact h3⟩
  · obtain ⟨I, e1, _⟩ := key k o ho
    exact (trI_spec e1).2.2.1
  · obtain ⟨I, e1, _, e3, _⟩ := key k o ho
    rw [e3, (trI_spec e1).1]
  · obtain ⟨I, e1, e2, _⟩ := key k o ho
    exact ⟨I, e1, e2⟩
  · obtain ⟨I, e1, f1, f2, f3⟩ := key k o ho
    obtain ⟨_, i2, _, _⟩ := trI_spec e1
    have hk := (Array.getElem?_eq_some_iff.1 ho).1
    have hlt : i < ops.toList.length := by have := (Array.getElem?_eq_some_iff.1 hp).1; simpa using this
    have hbz : bit ((befs ops.toList []).getD k 0) i = false := by
      cases hb : bit ((befs ops.toList []).getD k 0) i
      · rfl
      · exact absurd (mem_bsF.2 ⟨hlt, hb⟩) hni
    have hna : i ∈ (List.range k).filter fun i => !bit ((befs ops.toList []).getD k 0) i := by
      simp only [List.mem_filter, List.mem_range, hik, hbz, Bool.not_false, and_self]
    rcases f3 with ⟨f3, _⟩ | ⟨f3, _⟩
    · rw [f3.1]
      exact ⟨fun _ _ => .inr ⟨rfl, f3.2⟩, fun _ _ u' hu' => by simp at hu', fun u' hu' => by simp at hu'⟩
    · rcases hlog k (by omega) i p hik hp with hz | hm
      · rw [hz.1]
        exact ⟨fun u hu => (by cases hu), fun u hu => (by cases hu), fun _ _ => .inr ⟨rfl, hz.2⟩⟩
      · obtain ⟨s1, s2, s3⟩ := free_spec f3 i _ _ hm hna
        rw [i2] at s1
        exact ⟨fun u hu => .inl (s1 u.1 (fsts_mem.2 ⟨u, hu, rfl⟩)), fun u hu u' hu' e => s2 u.1 (fsts_mem.2 ⟨u, hu, rfl⟩) (fsts_mem.2 ⟨u', hu', e.symm⟩), fun u' hu' => .inl fun hf => s3 u'.1 hf (fsts_mem.2 ⟨u', hu', rfl⟩)⟩
theorem Sat.drawn (hS : Sat c m h tm a w) : Sat c m h tm a { w with drawn := w.drawn + 1 } := by
  have hb : RowKit.Below w.heap.size w { w with drawn := w.drawn + 1 } := ⟨rfl, rfl, rfl, Nat.le_refl _, fun _ _ => rfl⟩
  obtain ⟨h1, h2⟩ := hS.mem.grow hb
  exact hS.of_mem h1 h2
theorem qw_congr {ti : Nat → Option TI} {tm tm' : Tm} {h1 : H} {d : Option Nat} {op : Op} (h : ∀ o ∈ op.operands, ev tm o = ev tm' o) : qw ti tm h1 d op = qw ti tm' h1 d op := by
  cases op <;> simp only [Op.operands] at h <;> simp only [qw]
  case store t a b => rw [h a (by simp), h b (by simp)]
  case call cl => rw [evs_congr (l := cl.args.toList) fun o ho => h o (by simp [Call.operands]; exact .inr (by simpa using ho))]
theorem any_sound {x : Cx} (E : Env x c) {ops : Array Oper} {bs : Nat → List Nat} {tr : Nat → Rc} {st : Nat → S} (W : Wsq x ops bs c.n tr st) (R : Rg ops bs) {s0 : S} (h0 : st 0 = s0) {Q : Exit → Act → World → Prop}
    (hn : ∀ a' w' m', Sat c m' (lk (st ops.size).hp) (st ops.size).tm a' w' → Q .normal a' w') :
    ∀ (fuel : Nat) (listed : Array Bool) (a : Act) (w : World) (m : Mp), listed.size = ops.size → Closed ops bs (fun k => listed.getD k false) → un (fun k => listed.getD k false) ops.size ≤ fuel →
      Sat c m (Fd ops tr s0 (fun k => listed.getD k false) ops.size).2 (Fd ops tr s0 (fun k => listed.getD k false) ops.size).1 a w → wpAny c.P .any ops Q fuel listed a w := by
  have done : ∀ (listed : Array Bool) (a : Act) (w : World) (m : Mp), (∀ k, k < ops.size → listed.getD k false = true) → Sat c m (Fd ops tr s0 (fun k => listed.getD k false) ops.size).2 (Fd ops tr s0 (fun k => listed.getD k false) ops.size).1 a w → Q .normal a w := fun listed a w m hall hS => by
    rw [Fd_true W h0 _ ops.size (Nat.le_refl _) hall] at hS
    exact hn a w m hS
  have getD2 : ∀ (listed : Array Bool) (k : Nat), k < listed.size → listed.getD k true = listed.getD k false := fun listed k hk => by simp [Array.getD, hk]
  have ready : ∀ (listed : Array Bool), listed.size = ops.size → Region.ready .any ops listed = [] → ∀ k, k < ops.size → listed.getD k false = true := fun listed hsz hr => by
    intro k
    induction k using Nat.strongRecOn with
    | ind k ih =>
      intro hk
      refine Classical.byContradiction fun hd => ?_
      obtain ⟨o, ho⟩ := getO (ops := ops) (k := k) hk
      have : k ∈ Region.ready .any ops listed := mem_ready.2 ⟨by rw [getD2 _ _ (by omega)]; simpa using hd, o, ho, fun e he hb => by
        have := (R.dep k o ho e he hb).1
        exact ih e.on this (by omega)⟩
      rw [hr] at this
      cases this
  intro fuel
  induction fuel with
  | zero =>
    intro listed a w m hsz hC hun hS
    have hall := un_zero (D := fun k => listed.getD k false) (n := ops.size) (by omega)
    refine ⟨?_, done listed a w m hall hS⟩
    refine List.eq_nil_iff_forall_not_mem.2 fun k hk => ?_
    obtain ⟨h1, o, ho, _⟩ := mem_ready.1 hk
    have hkl := (Array.getElem?_eq_some_iff.1 ho).1
    rw [getD2 _ _ (by omega)] at h1
    have := hall k hkl
    rw [h1] at this
    cases this
  | succ fuel ih =>
    intro listed a w m hsz hC hun hS
    refine ⟨fun hr => done listed a w m (ready listed hsz hr) hS, fun j hj => ?_⟩
    obtain ⟨hnD', o, ho, hdep⟩ := mem_ready.1 hj
    have hjl := (Array.getElem?_eq_some_iff.1 ho).1
    rw [getD2 _ _ (by omega)] at hnD'
    have hnD : (fun k => listed.getD k false) j = false := hnD'
    have hr : ∀ i ∈ bs j, (fun k => listed.getD k false) i = true := fun i hi => by
      obtain ⟨e, he, hb, hi'⟩ := R.bsd j o ho i hi
      have h1 := hdep e he hb
      rcases hi' with rfl | hi'
      · exact h1
      · obtain ⟨oe, hoe⟩ := getO (ops := ops) (k := e.on) (by have := (R.dep j o ho e he hb).1; omega)
        exact hC e.on oe hoe h1 i hi'
    have hD' : ∀ k, (fun k => (listed.setIfInBounds j true).getD k false) k = if k = j then true else (fun k => listed.getD k false) k := fun k => by
      by_cases e : k = j
      · subst e; simp [show k < listed.size by omega]
      · rw [if_neg e]; exact getD_set_ne false (Ne.symm e)
    have hC' : Closed ops bs (fun k => (listed.setIfInBounds j true).getD k false) := fun k ok hk hd i hi => by
      rw [hD'] at hd ⊢
      by_cases e : i = j
      · rw [if_pos e]
      · rw [if_neg e]
        by_cases e2 : k = j
        · subst e2; exact hr i hi
        · rw [if_neg e2] at hd; exact hC k ok hk hd i hi
    have hun' : un (fun k => (listed.setIfInBounds j true).getD k false) ops.size ≤ fuel := by
      have := un_set hnD hD' ops.size
      rw [if_pos hjl] at this
      omega
    have next : ∀ a' w' m', Sat c m' (act o.dst (tr j) (Fd ops tr s0 (fun k => listed.getD k false) ops.size)).2 (act o.dst (tr j) (Fd ops tr s0 (fun k => listed.getD k false) ops.size)).1 a' w' → wpAny c.P .any ops Q fuel (listed.setIfInBounds j true) a' w' := fun a' w' m' hS' => by
      refine ih _ a' w' m' (by simpa using hsz) hC' hun' ?_
      rw [Fd_set W R hC ho hnD hD' ops.size (Nat.le_refl _), if_neg (by omega), show dsts ops j = o.dst by simp [dsts, ho]]
      exact hS'
    unfold wpOp
    rw [ho]
    simp only
    have htm := fun t ht => tm_at W R h0 hC ho hnD hr (t := t) ht ops.size (Nat.le_refl _)
    rw [Nat.min_eq_right (by omega)] at htm
    have hops : ∀ y ∈ o.op.operands, ev (st j).tm y = ev (Fd ops tr s0 (fun k => listed.getD k false) ops.size).1 y := fun y hy => by
      cases y with
      | tmp t => exact (htm t (by unfold looks; exact List.mem_append_left _ (List.mem_filterMap.2 ⟨.tmp t, by simpa using hy, rfl⟩))).symm
      | _ => rfl
    have hgd : ∀ (g : Nat) (want b : Bool) (t : Nat) (lb : Bool), o.guard = some (g, want) → dstAt ops.toList g = some t → gt (st j).tm t = some (.t (.b b) lb) → Region.wanted o (yielded ops a.tmps) = (b == want) := fun g want b t lb h1 h2 h3 => by
      have h4 : (Fd ops tr s0 (fun k => listed.getD k false) ops.size).1 t = some (.t (.b b) lb) := by
        rw [htm t (by simp [looks, h1, h2])]
        exact h3
      obtain ⟨rv, hrv, hvr⟩ := tmps_get hS (t := t) h4
      have hy : yielded ops a.tmps g = some b := by
        unfold dstAt at h2
        have h2' : (ops[g]?).bind (·.dst) = some t := by simpa using h2
        unfold yielded
        rw [h2']
        simp only [Option.bind_some, hrv]
        cases hvr with
        | t _ _ _ hr => cases hr; rfl
      unfold Region.wanted
      rw [h1]
      simp only [hy]
      cases b <;> cases want <;> rfl
    have hgu : ∀ (g : Nat) (want : Bool) (t : Nat), o.guard = some (g, want) → dstAt ops.toList g = some t → gt (st j).tm t = some (.tup []) → Region.wanted o (yielded ops a.tmps) = false := fun g want t h1 h2 h3 => by
      have h4 : (Fd ops tr s0 (fun k => listed.getD k false) ops.size).1 t = some (.tup []) := by
        rw [htm t (by simp [looks, h1, h2])]
        exact h3
      obtain ⟨rv, hrv, hvr⟩ := tmps_get hS (t := t) h4
      have hy : yielded ops a.tmps g = none := by
        unfold dstAt at h2
        have h2' : (ops[g]?).bind (·.dst) = some t := by simpa using h2
        unfold yielded
        rw [h2']
        simp only [Option.bind_some, hrv]
        cases hvr
        rfl
      unfold Region.wanted
      rw [h1]
      simp only [hy]
      rfl
    obtain ⟨I, hI, hfact⟩ := W.fact j o ho
    obtain ⟨i1, i2, _, i4⟩ := trI_spec hI
    cases etr : tr j with
    | mk v us sk =>
    have hfoot : ¬ ((tr j).us = [] ∧ (tr j).sk = true) → Same (foot (st j).tm o.op) (lk (st j).hp) (Fd ops tr s0 (fun k => listed.getD k false) ops.size).2 := fun hran id hid => by
      rw [h_at W R h0 hC ho hnD hr hran hid ops.size (Nat.le_refl _), Nat.min_eq_right (by omega)]
    rw [etr] at hfact
    cases hfact with
    | ran v us h1 h2 =>
      have hw : Region.wanted o (yielded ops a.tmps) = true := by
        rcases h1 with h1 | ⟨t, want, lb, h1, h5⟩
        · rcases i4 with ⟨h, _⟩ | ⟨_, _, _, _, _, h⟩
          · simp [Region.wanted, h]
          · rw [h] at h1; cases h1
        · rcases i4 with ⟨_, h⟩ | ⟨g, want', t', h6, h7, h⟩
          · rw [h] at h1; cases h1
          · rw [h] at h1
            simp only [Option.some.injEq, Prod.mk.injEq] at h1
            obtain ⟨rfl, rfl⟩ := h1
            rw [hgd g _ _ _ lb h6 h7 h5]; simp
      rw [if_pos hw]
      refine .inl ?_
      have hfree : (Fd ops tr s0 (fun k => listed.getD k false) ops.size).2 ((st ops.size).hp.length) = none := by
        have : ∀ k, k ≤ ops.size → ∀ id, (st ops.size).hp.length ≤ id → (Fd ops tr s0 (fun k => listed.getD k false) k).2 id = none := by
          intro k
          induction k with
          | zero =>
            intro _ id hid
            have := W.mono (j := 0) (k := ops.size) (by omega) (Nat.le_refl _)
            rw [h0] at this
            exact List.getElem?_eq_none (by omega)
          | succ k ihk =>
            intro hk id hid
            obtain ⟨ok, hok⟩ := getO (ops := ops) (k := k) (by omega)
            have hm := W.mono (j := k + 1) (k := ops.size) (by omega) (Nat.le_refl _)
            rw [Fd]
            split
            · simp only [act]
              rw [uH_ne _ _ fun u hu e => ?_, ihk (by omega) id hid]
              have := (upds_length _ _ (W.fits hok)).2.2 u hu
              rw [W.step k ok hok] at hm
              simp only [stepS] at hm
              omega
            · exact ihk (by omega) id hid
        exact this ops.size (Nat.le_refl _) _ (Nat.le_refl _)
      rw [i2] at h2
      have hy := yields_congr hops (yields_foot (hfoot (by rw [etr]; rintro ⟨_, h⟩; cases h)) h2)
      refine yields_sound E hfree hS (fun _ _ h => h) hy (fun u hu hle => new_at W R h0 hC ho hnD ⟨u, by rw [etr]; exact hu, rfl⟩ hle ops.size (Nat.le_refl _)) fun rv w' m' hl => ?_
      refine next _ _ m' ?_
      rw [etr]
      exact hl.sat hS o.dst (W.dst j o ho)
    | skip t want lb h1 h2 =>
      have hw : Region.wanted o (yielded ops a.tmps) = false := by
        rcases i4 with ⟨_, h⟩ | ⟨g, want', t', h6, h7, h⟩
        · rw [h] at h1; cases h1
        · rw [h] at h1
          simp only [Option.some.injEq, Prod.mk.injEq] at h1
          obtain ⟨rfl, rfl⟩ := h1
          rcases h2 with h2 | h2
          · rw [hgd g _ _ _ lb h6 h7 h2]
            cases want' <;> rfl
          · exact hgu g _ _ h6 h7 h2
      rw [hw]
      simp only [Bool.false_eq_true, if_false]
      refine next _ _ m ?_
      rw [etr]
      exact hS.put o.dst (W.dst j o ho) (.tup #[] [] rfl (by simp))
    | wr p v id b h1 h2 h3 h4 =>
      have hw : Region.wanted o (yielded ops a.tmps) = true := by
        rcases i4 with ⟨h, _⟩ | ⟨_, _, _, _, _, h⟩
        · simp [Region.wanted, h]
        · rw [h] at h2; cases h2
      rw [if_pos hw]
      refine .inl ?_
      rw [i1, i2] at h3
      rw [qw_foot (hfoot (by rw [etr]; rintro ⟨h, _⟩; cases h)), qw_congr hops] at h3
      obtain ⟨_, nx, w', hrun, hc⟩ := qw_sound E.ti hS (W.dst j o ho) h3 h4
      unfold Oper.wp
      rw [hrun]
      rcases hc with ⟨rfl, hS'⟩ | ⟨v', rfl, hS'⟩
      · exact next _ _ m (by rw [etr]; exact hS')
      · exact next _ _ m (by rw [etr]; exact hS')
theorem draw_sound {x : Cx} (E : Env x c) (hm : c.P.follows .mixedOrders = true) {id : Nat} {ops : Array Oper} (hok : drawOK ops.toList = true) {l : List D} (ht : trD c.n ops.toList (befs ops.toList []) 0 ops.toList = some l)
    {Q : Exit → Act → World → Prop} {K : S → Prop} (hn : ∀ s' a' w' m', K s' → Sat c m' (lk s'.hp) s'.tm a' w' → Q .normal a' w') {s : S} (hS : Sat c m (lk s.hp) s.tm a w) (hW : wdraw x l 0 [] s K) : (Code.region id ops true).wp c.P Q a w := by
  obtain ⟨tr, st, W, h0, hK⟩ := seq_of ht hW
  refine wp_region_any hm (any_sound E W (rg_of hok) h0 (fun a' w' m' hS' => hn _ a' w' m' hK hS') ops.size _ a _ m (by simp) (fun j o ho hd i hi => by
    have hj := (Array.getElem?_eq_some_iff.1 ho).1
    simp [hj] at hd) ?_ ?_)
  · have : ∀ (D : Nat → Bool) n, un D n ≤ n := fun D n => by
      induction n with
      | zero => exact Nat.le_refl _
      | succ n ih => simp only [un]; split <;> omega
    exact this _ _
  · have hz : ∀ k, Fd ops tr s (fun k => (Array.replicate ops.size false).getD k false) k = (s.tm, lk s.hp) := fun k => by
      induction k with
      | zero => rfl
      | succ k ih =>
        rw [Fd, if_neg, ih]
        by_cases hk : k < ops.size <;> simp [hk]
    rw [hz]
    exact hS.drawn
end
end Go.Proofs.YtgkmhmhbepfiaaaDoor.Pm
