/- The abstract machine, fourteenth part: a row grows. No law of Go's is stated here. -/
import Derived.Test.YtadnjellfiafaaaPmM
set_option linter.all false
namespace Go.Proofs.Ytadnjellfiafaaa.Pm
open Go Go.RowKit

section
variable {P : Program} {w w' : World} {c : Ct} {m m' : Mp} {h h' h1 : H} {ti : Nat → Option TI} {tm : Tm} {a : Act}

theorem one_of_rep {B : Nat → Prop} {v : Value} {x : T} (hr : Rep w B v x) (h1 : x.one) : v.oneCell' = true := by
  cases hr <;> first | rfl | exact h1.elim

theorem Ext.of_grown (hM : Mem c m h w) {w' : World} {row : Option Nat} (hg : w.grownBy w' row) (hrow : ∀ g, row = some g → ¬ m.st g) : Ext m h w m h w' :=
  ⟨fun _ h => h, fun _ _ => rfl, fun _ v' z es l _ hh => ⟨v', z, es, l, hh, Nat.le_refl _⟩, fun _ _ _ es l _ _ hr => ⟨⟨es, l, hr⟩, rfl⟩, fun _ h => h, fun b hs => hg.block b (hM.stlt b hs) (fun e => hrow b e.symm hs)⟩

/-- A row gets a version more, other elements, perhaps another place; but for its old block all old blocks are as they were. -/
theorem Mem.regrow (hM : Mem c m h w) {id ver z : Nat} {es : List (List T)} {l : Bool} (hid : h id = some (.row ver z es l)) {w' : World} (hg : w.grownBy w' (if 0 < (m.ψ id).2 then some (m.ψ id).1 else none))
    (r : Nat × Nat) (es' : List (List T)) (l' : Bool) (hr : 0 < r.2 → (r.1 = (m.ψ id).1 ∧ 0 < (m.ψ id).2) ∨ (w.heap.size ≤ r.1))
    (hb : Ext m h w { m with ψ := setF m.ψ id r } (setH h id (.row (ver + 1) z es' l')) w' → ¬ (m.st r.1 ∧ 0 < r.2) → (0 < r.2 → c.B ≤ r.1) → BlkOK { m with ψ := setF m.ψ id r } c.B (setH h id (.row (ver + 1) z es' l')) w' id (.row (ver + 1) z es' l')) :
    Ext m h w { m with ψ := setF m.ψ id r } (setH h id (.row (ver + 1) z es' l')) w' ∧ Mem c { m with ψ := setF m.ψ id r } (setH h id (.row (ver + 1) z es' l')) w' := by
  have hown : 0 < (m.ψ id).2 → place m h id = some (m.ψ id).1 := fun h0 => by simp [place, hid, placeB, h0]
  have hrow : ∀ g, (if 0 < (m.ψ id).2 then some (m.ψ id).1 else none) = some g → place m h id = some g := fun g e => by
    split at e
    · rename_i h0; simp only [Option.some.injEq] at e; subst e; exact hown h0
    · cases e
  have hsame : ∀ b, b < w.heap.size → place m h id ≠ some b → w'.heap[b]? = w.heap[b]? := fun b hb hne => hg.block b hb (fun e => hne (hrow b e.symm))
  have he : Ext m h w { m with ψ := setF m.ψ id r } (setH h id (.row (ver + 1) z es' l')) w' := by
    refine ⟨fun i hi => ?_, fun _ _ => rfl, fun i v' z0 es0 l0 hi hh => ?_, fun i v z0 es0 l0 hi hv hrr => ?_, fun _ h => h, fun b hs => ?_⟩
    · by_cases e : i = id <;> simp [setH, e, hi]
    · by_cases e : i = id
      · subst e
        simp [setH] at hh
        obtain ⟨rfl, _⟩ := hh
        exact ⟨ver, z, es, l, hid, by omega⟩
      · exact ⟨v', z0, es0, l0, by simpa [setH, e] using hh, Nat.le_refl _⟩
    · by_cases e : i = id
      · subst e
        have hle := hv _ _ _ _ hid
        exfalso
        have : rowOf (setH h i (.row (ver + 1) z es' l')) i v = none := by simp [rowOf, setH]; omega
        rw [this] at hrr
        cases hrr
      · exact ⟨⟨es0, l0, by simpa [rowOf, setH, e] using hrr⟩, by simp [setF, e]⟩
    · exact hsame b (hM.stlt b hs) (fun e => (hM.place_lt e).2.2 hs)
  have hrst : ¬ (m.st r.1 ∧ 0 < r.2) := by
    rintro ⟨h1, h2⟩
    rcases hr h2 with ⟨h3, h4⟩ | h3
    · rw [h3] at h1; exact (hM.place_lt (hown h4)).2.2 h1
    · exact Nat.lt_irrefl _ (Nat.lt_of_lt_of_le (hM.stlt _ h1) h3)
  have hrB : 0 < r.2 → c.B ≤ r.1 := fun h2 => by
    rcases hr h2 with ⟨h3, h4⟩ | h3
    · rw [h3]; exact (hM.place_lt (hown h4)).2.1
    · exact Nat.le_trans hM.bsize h3
  have hpl : ∀ i, i ≠ id → place { m with ψ := setF m.ψ id r } (setH h id (.row (ver + 1) z es' l')) i = place m h i := fun i hi => by
    unfold place
    simp only [setH, if_neg hi]
    cases h i with
    | none => rfl
    | some b' => cases b' <;> simp [placeB, setF, hi]
  have hpi : ∀ g, place { m with ψ := setF m.ψ id r } (setH h id (.row (ver + 1) z es' l')) id = some g → 0 < r.2 ∧ g = r.1 := fun g e => by
    simp [place, setH, placeB, setF] at e
    exact ⟨e.1, e.2.symm⟩
  have hdis : ∀ i, i ≠ id → ∀ g, place m h i = some g → ¬ (0 < r.2 ∧ g = r.1) := fun i hi g hp ⟨h2, e⟩ => by
    subst e
    rcases hr h2 with ⟨h3, h4⟩ | h3
    · rw [h3] at hp; exact hi (hM.sep i id _ hp (hown h4))
    · exact Nat.lt_irrefl _ (Nat.lt_of_lt_of_le (hM.place_lt hp).1 h3)
  refine ⟨he, ⟨?_, he.kept hM.kept, fun i b hi => ?_, fun i j g hi hj => ?_, fun b hs => Nat.lt_of_lt_of_le (hM.stlt b hs) hg.size, hM.stin⟩⟩
  · refine hM.below.trans ⟨hg.os, hg.tape, hg.output, hg.size, fun b hb => hsame b (Nat.lt_of_lt_of_le hb hM.bsize) (fun e => ?_)⟩
    exact Nat.lt_irrefl _ (Nat.lt_of_lt_of_le hb (hM.place_lt e).2.1)
  · by_cases e : i = id
    · subst e
      simp [setH] at hi
      subst hi
      exact hb he hrst hrB
    · have hi' : h i = some b := by simpa [setH, e] using hi
      refine (hM.blk i b hi').keep he rfl (by simp [setF, e]) fun g hgp => ?_
      have hpg : place m h i = some g := by unfold place; rw [hi']; exact hgp
      obtain ⟨h2, h3, h4⟩ := hM.place_lt hpg
      exact ⟨h4, hsame g h2 (fun e' => e (hM.sep i id g hpg e'))⟩
  · by_cases e : i = id <;> by_cases e' : j = id
    · rw [e, e']
    · subst e; rw [hpl j e'] at hj; exact (hdis j e' g hj (hpi g hi)).elim
    · subst e'; rw [hpl i e] at hi; exact (hdis i e g hi (hpi g hj)).elim
    · rw [hpl i e] at hi; rw [hpl j e'] at hj; exact hM.sep i j g hi hj

theorem run_append_room' {t ty e : TypeId} {i : TypeInfo} (ht : P.underlying t = some (.slice e)) (hi : P.info? e = some i)
    (g sLen sCap : Nat) (cur : Array Value) (te : TypeId) (hg : w.heap[g]? = some (.cells cur te (0, 0)))
    (x : Addr) (n k : Nat) (news : List Value) (hl : news.length = n * i.size) (hnews : ∀ (j : Nat) (u : Value), news[j]? = some u → w.cell? (x.add j) = some u) (h1 : ∀ u ∈ news, u.oneCell' = true)
    (hroom : sLen + n ≤ sCap) (hfit : sLen * i.size + news.length ≤ cur.size) :
    (Builtin.append_ #[t, t] ty #[.slice (some ⟨g, 0, none⟩) sLen sCap, .slice (some x) n k]).run P w =
      .ok (.slice (some ⟨g, 0, none⟩) (sLen + n) sCap) (w.setRow g (cur.toList.take (sLen * i.size) ++ news ++ cur.toList.drop (sLen * i.size + news.length)).toArray) := by
  have hf := run_firstCells_some (P := P) w i.size n x n k news hl hnews
  have hst := run_storeCells_at P g (sLen * i.size) te news 0 cur w hg (by simpa using hfit) h1
  simp only [Nat.add_zero] at hst
  simp [Builtin.append_, run_underlying ht, sizeOf, typeInfo, hi, Builtin.lenOf, hroom, hf, Addr.add_lit, hst]
theorem run_append_nothing {t ty e : TypeId} {i : TypeInfo} (ht : P.underlying t = some (.slice e)) (hi : P.info? e = some i) (A A' : Option Addr) (sLen sCap k : Nat) (hc : sLen ≤ sCap) :
    (Builtin.append_ #[t, t] ty #[.slice A sLen sCap, .slice A' 0 k]).run P w = .ok (.slice A sLen sCap) w := by
  cases A <;> cases A' <;> simp [Builtin.append_, run_underlying ht, sizeOf, typeInfo, hi, Builtin.lenOf, hc, Builtin.firstCells, loadCells, loadCellsFrom, storeCells]
end
end Go.Proofs.Ytadnjellfiafaaa.Pm
