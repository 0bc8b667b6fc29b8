/- The abstract machine, ninth part: how the memory stays fitted when blocks are made, handed on, written. No law of Go's is stated here. -/
import Derived.Test.YtadnjellfiafaaaPmH
set_option linter.all false
namespace Go.Proofs.Ytadnjellfiafaaa.Pm
open Go Go.RowKit

section
variable {w w' : World} {c : Ct} {m m' : Mp} {h h' : H} {B : Nat}

theorem BlkOK.keep {id : Nat} {b : Blk} (hb : BlkOK m B h w id b) (he : Ext m h w m' h' w') (hφ : m'.φ id = m.φ id) (hψ : m'.ψ id = m.ψ id)
    (hst : ∀ g, placeB m id b = some g → ¬ m'.st g ∧ w'.heap[g]? = w.heap[g]?) : BlkOK m' B h' w' id b := by
  cases b with
  | var cs =>
    obtain ⟨h1, h2, rcs, t, hh, hz, hr⟩ := hb
    obtain ⟨h3, h4⟩ := hst _ rfl
    exact ⟨by rw [hφ]; exact h1, by rw [hφ]; exact h3, rcs, t, by rw [hφ, h4]; exact hh, hz, fun j v x hv hx => (hr j v x hv hx).mono he⟩
  | row ver z es l =>
    obtain ⟨h1, h2, h3, h4⟩ := hb
    refine ⟨by rw [hψ]; exact h1, h2, h3, fun h0 => ?_⟩
    rw [hψ] at h0
    obtain ⟨h5, h6, rcs, t, hh, hz, hr⟩ := h4 h0
    obtain ⟨h7, h8⟩ := hst (m.ψ id).1 (by simp [placeB, h0])
    refine ⟨by rw [hψ]; exact h5, by rw [hψ]; exact h7, rcs, t, by rw [hψ, h8]; exact hh, by rw [hψ]; exact hz, fun i j e x hi hj => ?_⟩
    obtain ⟨v, hv, hrep⟩ := hr i j e x hi hj
    exact ⟨v, hv, hrep.mono (fun b hb => ⟨he.st b hb.1, hb.2⟩) (fun b hb => he.heap b hb.1)⟩
  | gone => trivial

theorem Mem.placed (hM : Mem c m h w) {id g : Nat} {b : Blk} (hb : h id = some b) (hp : placeB m id b = some g) : g < w.heap.size ∧ c.B ≤ g ∧ ¬ m.st g := by
  have hk := hM.blk _ _ hb
  cases b with
  | var cs =>
    simp only [placeB, Option.some.injEq] at hp
    subst hp
    obtain ⟨h1, h2, rcs, t, hh, _⟩ := hk
    exact ⟨(Array.getElem?_eq_some_iff.1 hh).1, h1, h2⟩
  | row ver z es l =>
    simp only [placeB] at hp
    split at hp
    · rename_i h0
      simp only [Option.some.injEq] at hp
      subst hp
      obtain ⟨h1, h2, rcs, t, hh, _⟩ := hk.2.2.2 h0
      exact ⟨(Array.getElem?_eq_some_iff.1 hh).1, h1, h2⟩
    · cases hp
  | gone => cases hp
theorem Mem.place_lt (hM : Mem c m h w) {id g : Nat} (hp : place m h id = some g) : g < w.heap.size ∧ c.B ≤ g ∧ ¬ m.st g := by
  unfold place at hp
  split at hp
  · rename_i b hb; exact hM.placed hb hp
  · cases hp

/-- Blocks that are there stay as they were; new ones come. -/
theorem Mem.grow (hM : Mem c m h w) (hb : Below w.heap.size w w') : Ext m h w m h w' ∧ Mem c m h w' := by
  have he : Ext m h w m h w' := ⟨fun _ h => h, fun _ _ => rfl, fun _ v' z es l _ hh => ⟨v', z, es, l, hh, Nat.le_refl _⟩, fun _ _ _ es l _ _ hr => ⟨⟨es, l, hr⟩, rfl⟩, fun _ h => h, fun b hs => hb.block b (hM.stlt b hs)⟩
  refine ⟨he, ⟨?_, he.kept hM.kept, fun id b hid => ?_, hM.sep, fun b hs => Nat.lt_of_lt_of_le (hM.stlt b hs) hb.size, hM.stin⟩⟩
  · exact hM.below.trans (hb.mono hM.bsize)
  · refine (hM.blk id b hid).keep he rfl rfl fun g hg => ?_
    obtain ⟨h1, h2, h3⟩ := hM.placed hid hg
    exact ⟨h3, hb.block g h1⟩

theorem Sat.of_mem {tm : Tm} {a : Act} (hS : Sat c m h tm a w) (he : Ext m h w m' h' w') (hM : Mem c m' h' w') : Sat c m' h' tm a w' :=
  ⟨hM, hS.defers, hS.size, fun t v ht => ⟨(hS.tmps t v ht).1, (hS.tmps t v ht).2.mono he⟩⟩

/-- A block is stable from now on. -/
theorem Mem.addSt (hM : Mem c m h w) (p : Nat → Prop) (hp : ∀ b, p b → b < w.heap.size ∧ c.B ≤ b ∧ ∀ i, place m h i ≠ some b) :
    Ext m h w { m with st := fun b => m.st b ∨ p b } h w ∧ Mem c { m with st := fun b => m.st b ∨ p b } h w := by
  have he : Ext m h w { m with st := fun b => m.st b ∨ p b } h w := ⟨fun _ h => h, fun _ _ => rfl, fun _ v' z es l _ hh => ⟨v', z, es, l, hh, Nat.le_refl _⟩, fun _ _ _ es l _ _ hr => ⟨⟨es, l, hr⟩, rfl⟩, fun _ h => .inl h, fun b hs => rfl⟩
  refine ⟨he, ⟨hM.below, he.kept hM.kept, fun id b hid => ?_, hM.sep, fun b hs => ?_, fun b hs => ?_⟩⟩
  · refine (hM.blk id b hid).keep he rfl rfl fun g hg => ⟨fun hs => ?_, rfl⟩
    rcases hs with hs | hs
    · exact (hM.placed hid hg).2.2 hs
    · exact (hp g hs).2.2 id (by unfold place; rw [hid]; exact hg)
  · rcases hs with hs | hs
    · exact hM.stlt b hs
    · exact (hp b hs).1
  · rcases hs with hs | hs
    · exact hM.stin b hs
    · exact .inr (hp b hs).2.1

def setH (h : H) (id : Nat) (b : Blk) : H := fun i => if i = id then some b else h i
def setF {α : Type} (f : Nat → α) (id : Nat) (x : α) : Nat → α := fun i => if i = id then x else f i

/-- A number that was not taken is taken for a new block. -/
theorem Mem.add (hM : Mem c m h w) {n : Nat} (hn : h n = none) (b : Blk) (f : Nat) (r : Nat × Nat)
    (hf : ∀ g, placeB { m with φ := setF m.φ n f, ψ := setF m.ψ n r } n b = some g → c.B ≤ g ∧ ¬ m.st g ∧ ∀ i, place m h i ≠ some g)
    (hb : Ext m h w { m with φ := setF m.φ n f, ψ := setF m.ψ n r } (setH h n b) w → BlkOK { m with φ := setF m.φ n f, ψ := setF m.ψ n r } c.B (setH h n b) w n b) :
    Ext m h w { m with φ := setF m.φ n f, ψ := setF m.ψ n r } (setH h n b) w ∧ Mem c { m with φ := setF m.φ n f, ψ := setF m.ψ n r } (setH h n b) w := by
  have hne : ∀ id, (h id).isSome = true → id ≠ n := fun id hid e => by subst e; rw [hn] at hid; cases hid
  have he : Ext m h w { m with φ := setF m.φ n f, ψ := setF m.ψ n r } (setH h n b) w :=
    ⟨fun id hid => by simp [setH, hne id hid, hid], fun id hid => by simp [setF, hne id hid],
     fun id v' z es l hid hh => ⟨v', z, es, l, by simpa [setH, hne id hid] using hh, Nat.le_refl _⟩,
     fun id ver z es l hid _ hr => by
      refine ⟨⟨es, l, ?_⟩, by simp [setF, hne id hid]⟩
      simpa [rowOf, setH, hne id hid] using hr, fun _ h => h, fun b hs => rfl⟩
  have hpl : ∀ i, i ≠ n → place { m with φ := setF m.φ n f, ψ := setF m.ψ n r } (setH h n b) i = place m h i := fun i hi => by
    unfold place
    simp only [setH, if_neg hi]
    cases h i with
    | none => rfl
    | some b' => cases b' <;> simp [placeB, setF, hi]
  have hpn : place { m with φ := setF m.φ n f, ψ := setF m.ψ n r } (setH h n b) n = placeB { m with φ := setF m.φ n f, ψ := setF m.ψ n r } n b := by simp [place, setH]
  refine ⟨he, ⟨hM.below, he.kept hM.kept, fun id b' hid => ?_, fun i j g hi hj => ?_, hM.stlt, hM.stin⟩⟩
  · by_cases hin : id = n
    · subst hin
      simp [setH] at hid
      subst hid
      exact hb he
    · have hid' : h id = some b' := by simpa [setH, hin] using hid
      exact (hM.blk id b' hid').keep he (by simp [setF, hin]) (by simp [setF, hin]) fun g hg => ⟨(hM.placed hid' hg).2.2, rfl⟩
  · by_cases hin : i = n <;> by_cases hjn : j = n
    · rw [hin, hjn]
    · subst hin; rw [hpn] at hi; rw [hpl j hjn] at hj; exact absurd hj ((hf g hi).2.2 j)
    · subst hjn; rw [hpn] at hj; rw [hpl i hin] at hi; exact absurd hi ((hf g hj).2.2 i)
    · rw [hpl i hin] at hi; rw [hpl j hjn] at hj; exact hM.sep i j g hi hj

/-- A row is handed on: its block is stable from now on. -/
theorem Mem.goes (hM : Mem c m h w) {id ver z : Nat} {es : List (List T)} {l : Bool} (hid : h id = some (.row ver z es l)) :
    Ext m h w { m with st := fun b => m.st b ∨ (0 < (m.ψ id).2 ∧ b = (m.ψ id).1) } (setH h id .gone) w ∧ Mem c { m with st := fun b => m.st b ∨ (0 < (m.ψ id).2 ∧ b = (m.ψ id).1) } (setH h id .gone) w := by
  have he : Ext m h w { m with st := fun b => m.st b ∨ (0 < (m.ψ id).2 ∧ b = (m.ψ id).1) } (setH h id .gone) w := by
    refine ⟨fun i hi => ?_, fun _ _ => rfl, fun i v' z es l hi hh => ?_, fun i ver z es l hi _ hr => ?_, fun _ h => .inl h, fun b hs => rfl⟩
    · by_cases e : i = id <;> simp [setH, e, hi]
    · by_cases e : i = id
      · subst e; simp [setH] at hh
      · exact ⟨v', z, es, l, by simpa [setH, e] using hh, Nat.le_refl _⟩
    · by_cases e : i = id
      · subst e; simp [rowOf, setH] at hr
      · exact ⟨⟨es, l, by simpa [rowOf, setH, e] using hr⟩, rfl⟩
  have hpl : ∀ i, i ≠ id → place { m with st := fun b => m.st b ∨ (0 < (m.ψ id).2 ∧ b = (m.ψ id).1) } (setH h id .gone) i = place m h i := fun i hi => by
    unfold place
    simp only [setH, if_neg hi]
    cases h i with
    | none => rfl
    | some b' => cases b' <;> rfl
  have hpi : place { m with st := fun b => m.st b ∨ (0 < (m.ψ id).2 ∧ b = (m.ψ id).1) } (setH h id .gone) id = none := by simp [place, setH, placeB]
  have hown : 0 < (m.ψ id).2 → place m h id = some (m.ψ id).1 := fun h0 => by simp [place, hid, placeB, h0]
  refine ⟨he, ⟨hM.below, he.kept hM.kept, fun i b hi => ?_, fun i j g hi hj => ?_, fun b hs => ?_, fun b hs => ?_⟩⟩
  · by_cases e : i = id
    · subst e; simp [setH] at hi; subst hi; trivial
    · have hi' : h i = some b := by simpa [setH, e] using hi
      refine (hM.blk i b hi').keep he rfl rfl fun g hg => ⟨fun hs => ?_, rfl⟩
      rcases hs with hs | ⟨h0, rfl⟩
      · exact (hM.placed hi' hg).2.2 hs
      · exact e (hM.sep i id _ (by unfold place; rw [hi']; exact hg) (hown h0))
  · by_cases e : i = id
    · subst e; rw [hpi] at hi; cases hi
    · by_cases e' : j = id
      · subst e'; rw [hpi] at hj; cases hj
      · rw [hpl i e] at hi; rw [hpl j e'] at hj; exact hM.sep i j g hi hj
  · rcases hs with hs | ⟨h0, rfl⟩
    · exact hM.stlt b hs
    · exact (hM.place_lt (hown h0)).1
  · rcases hs with hs | ⟨h0, rfl⟩
    · exact hM.stin b hs
    · exact .inr (hM.place_lt (hown h0)).2.1

theorem Ext.trans {m'' : Mp} {h'' : H} {w'' : World} (h1 : Ext m h w m' h' w') (h2 : Ext m' h' w' m'' h'' w'') : Ext m h w m'' h'' w'' :=
  ⟨fun i hi => h2.known i (h1.known i hi), fun i hi => (h2.φ i (h1.known i hi)).trans (h1.φ i hi),
   fun i v' z es l hi hh => by
    obtain ⟨v0, z0, es0, l0, h0, hle⟩ := h2.ver i v' z es l (h1.known i hi) hh
    obtain ⟨v1, z1, es1, l1, h3, hle'⟩ := h1.ver i v0 z0 es0 l0 hi h0
    exact ⟨v1, z1, es1, l1, h3, Nat.le_trans hle' hle⟩,
   fun i ver z es l hi hv hr => by
    obtain ⟨⟨es0, l0, h0⟩, e⟩ := h2.ψ i ver z es l (h1.known i hi) (h1.verOK hi hv) hr
    obtain ⟨h3, e'⟩ := h1.ψ i ver z es0 l0 hi hv h0
    exact ⟨h3, e.trans e'⟩,
   fun b hb => h2.st b (h1.st b hb), fun b hb => (h2.heap b (h1.st b hb)).trans (h1.heap b hb)⟩
end
end Go.Proofs.Ytadnjellfiafaaa.Pm
