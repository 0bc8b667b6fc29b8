/- The abstract machine, tenth part: what is read through a row; operations that make blocks. No law of Go's is stated here. -/
import Derived.Test.YtadnjellfiafaaaPmI
import Derived.Great.BuildSlice
set_option linter.all false
namespace Go.Proofs.Ytadnjellfiafaaa.Pm
open Go Go.RowKit

section
variable {P : Program} {w w' : World} {c : Ct} {m m' : Mp} {h h' h1 : H} {ti : Nat → Option TI} {tm : Tm} {a : Act}

/-- A row's slice value reads as its elements. -/
theorem row_rep (hM : Mem c m h w) {id ver off len z : Nat} {es : List (List T)} {l : Bool} {rv : Value} (hv : VR m c.B h w rv (.row id ver off len)) (hr : rowOf h id ver = some (z, es, l)) (hl : off + len ≤ es.length) :
    Rep w (fun b => (m.st b ∨ (0 < (m.ψ id).2 ∧ b = (m.ψ id).1)) ∧ (l = true → c.B ≤ b)) rv (.sl ((es.drop off).take len)) := by
  cases hv with
  | row _ _ _ _ k A hid hver hk hrow =>
    obtain ⟨h4, h5⟩ := hrow _ _ _ hr
    obtain ⟨h6, h7, h8, h9⟩ := hM.blk _ _ (rowOf_some hr)
    have get : ∀ (i : Nat) (e : List T), ((es.drop off).take len)[i]? = some e → i < len ∧ es[off + i]? = some e := fun i e he => by
      have hi : i < len := by have := (List.getElem?_eq_some_iff.1 he).1; simp at this; omega
      rw [List.getElem?_take_of_lt hi, List.getElem?_drop] at he
      exact ⟨hi, he⟩
    by_cases h0 : 0 < len
    · obtain ⟨h10, h11, rcs, t, hh, hsz, hcell⟩ := h9 (by omega)
      refine .sl A len k _ z (fun i j => (rcs[(off + i) * z + j]?).getD undef) (by simp; omega) hk (by omega) (fun e => by rcases Nat.eq_zero_or_pos k with h | h; exact h; rw [h5 h] at e; cases e) (fun i e he => h8 _ _ (get i e he).2) (fun _ => ?_) (fun i j e x he hx => ?_)
      · refine ⟨_, h5 (by omega), by rw [block_add]; exact ⟨.inr ⟨by omega, rfl⟩, fun _ => h10⟩, fun i j hi hj => ?_⟩
        have hin : (off + i) * z + j < rcs.size := by
          have : (off + i + 1) * z ≤ (m.ψ id).2 * z := Nat.mul_le_mul_right _ (by omega)
          rw [Nat.add_mul] at this
          omega
        rw [add_lit, add_lit, cell_lit hh, show 0 + off * z + (i * z + j) = (off + i) * z + j by rw [Nat.add_mul]; omega]
        simp [hin]
      · obtain ⟨v, hv, hrep⟩ := hcell _ _ _ _ (get i e he).2 hx
        simp only [hv, Option.getD_some]
        exact hrep.mono (fun b hb => ⟨.inl hb.1, hb.2⟩) (fun _ _ => rfl)
    · obtain rfl : len = 0 := by omega
      exact .sl A 0 k _ z (fun _ _ => undef) (by simp) hk (by omega) (fun e => by rcases Nat.eq_zero_or_pos k with h | h; exact h; rw [h5 h] at e; cases e) (by simp) (by simp) (by simp)

/-- The elements of a slice value that is read: the machine's cells, laid in a list. -/
theorem elems_cells (hM : Mem c m h w) {u : AV} {p : List (List T) × Bool} (hp : elems h u = some p) {rv : Value} (hv : VR m c.B h w rv u) (z : Nat) (hz : ∀ e ∈ p.1, e.length = z) (h0 : 0 < z) :
    ∃ A k, rv = .slice A p.1.length k ∧ p.1.length ≤ room ∧ ∃ news : List Value, news.length = p.1.length * z ∧ (0 < p.1.length → ∃ ad, A = some ad ∧ ∀ (j : Nat) (v : Value), news[j]? = some v → w.cell? (ad.add j) = some v) ∧
      ∀ (i j : Nat) (e : List T) (x : T), p.1[i]? = some e → e[j]? = some x → ∃ v, news[i * z + j]? = some v ∧ Rep w (m.ok c.B p.2) v x := by
  -- a reading is enough
  have of_rep : ∀ (B : Nat → Prop) (rv : Value) (es : List (List T)), (∀ e ∈ es, e.length = z) → Rep w B rv (.sl es) → ∃ A k, rv = .slice A es.length k ∧ es.length ≤ room ∧ ∃ vals : Nat → Nat → Value, 
      (0 < es.length → ∃ ad, A = some ad ∧ ∀ i j, i < es.length → j < z → w.cell? (ad.add (i * z + j)) = some (vals i j)) := by
    intro B rv es hz hr
    cases hr with
    | sl A n k _ z' vals hn hc hm hz0 hz' hA hvv =>
      subst hn
      refine ⟨A, k, rfl, hm, vals, fun hpos => ?_⟩
      obtain ⟨ad, e1, _, hcell⟩ := hA hpos
      have hzz : z' = z := by
        obtain ⟨e, he⟩ := list_get hpos
        rw [← hz' 0 e he]
        exact hz e (List.mem_of_getElem? he)
      subst hzz
      exact ⟨ad, e1, hcell⟩
  have flat : ∀ (n : Nat) (vals : Nat → Nat → Value), ∃ news : List Value, news.length = n * z ∧ (∀ (k : Nat) (v : Value), news[k]? = some v → v = vals (k / z) (k % z) ∧ k < n * z) ∧ ∀ i j, i < n → j < z → news[i * z + j]? = some (vals i j) := by
    intro n vals
    refine ⟨(List.range (n * z)).map fun k => vals (k / z) (k % z), by simp, fun k v hk => ?_, fun i j hi hj => ?_⟩
    · rw [List.getElem?_map] at hk
      simp only [Option.map_eq_some_iff] at hk
      obtain ⟨k', hk', rfl⟩ := hk
      have hlt := (List.getElem?_eq_some_iff.1 hk').1
      simp at hlt
      rw [List.getElem?_range hlt] at hk'
      simp at hk'
      subst hk'
      exact ⟨rfl, hlt⟩
    · have hlt : i * z + j < n * z := by
        have : (i + 1) * z ≤ n * z := Nat.mul_le_mul_right _ hi
        rw [Nat.add_mul] at this
        omega
      rw [List.getElem?_map, List.getElem?_range hlt]
      simp only [Option.map_some, Option.some.injEq]
      rw [show (i * z + j) / z = i by rw [Nat.mul_comm, Nat.mul_add_div h0, Nat.div_eq_of_lt hj, Nat.add_zero], show (i * z + j) % z = j by rw [Nat.mul_comm, Nat.mul_add_mod, Nat.mod_eq_of_lt hj]]
  have decomp : ∀ k, k / z * z + k % z = k := fun k => by rw [Nat.mul_comm]; exact Nat.div_add_mod k z
  have main : ∀ (es : List (List T)) (l : Bool) (A : Option Addr) (k : Nat) (vals : Nat → Nat → Value), (∀ e ∈ es, e.length = z) → es.length ≤ room →
      (0 < es.length → ∃ ad, A = some ad ∧ ∀ i j, i < es.length → j < z → w.cell? (ad.add (i * z + j)) = some (vals i j)) →
      (∀ (i j : Nat) (e : List T) (x : T), es[i]? = some e → e[j]? = some x → Rep w (m.ok c.B l) (vals i j) x) →
      ∃ A' k', Value.slice A es.length k = .slice A' es.length k' ∧ es.length ≤ room ∧ ∃ news : List Value, news.length = es.length * z ∧ (0 < es.length → ∃ ad, A' = some ad ∧ ∀ (j : Nat) (v : Value), news[j]? = some v → w.cell? (ad.add j) = some v) ∧
        ∀ (i j : Nat) (e : List T) (x : T), es[i]? = some e → e[j]? = some x → ∃ v, news[i * z + j]? = some v ∧ Rep w (m.ok c.B l) v x := by
    intro es l A k vals hz hroom hA hv
    obtain ⟨news, hl, hk, hg⟩ := flat es.length vals
    refine ⟨A, k, rfl, hroom, news, hl, fun hpos => ?_, fun i j e x he hx => ?_⟩
    · obtain ⟨ad, e1, hcell⟩ := hA hpos
      refine ⟨ad, e1, fun j v hj => ?_⟩
      obtain ⟨rfl, hlt⟩ := hk j v hj
      have := hcell (j / z) (j % z) (Nat.div_lt_of_lt_mul (by rw [Nat.mul_comm]; exact hlt)) (Nat.mod_lt _ h0)
      rwa [decomp] at this
    · have hi := (List.getElem?_eq_some_iff.1 he).1
      have hj := (List.getElem?_eq_some_iff.1 hx).1
      rw [hz e (List.mem_of_getElem? he)] at hj
      exact ⟨vals i j, hg i j hi hj, hv i j e x he hx⟩
  cases hv <;> simp only [elems, reduceCtorEq] at hp
  case t x l hr =>
    cases hr <;> simp only [Option.some.injEq, reduceCtorEq] at hp
    case sl A n k es z' vals hn hc hm hz0 hz' hA hvv =>
      subst hp
      subst hn
      refine main es l A k vals hz hm (fun hpos => ?_) hvv
      obtain ⟨ad, e1, _, hcell⟩ := hA hpos
      have hzz : z' = z := by
        obtain ⟨e, he⟩ := list_get hpos
        rw [← hz' 0 e he]
        exact hz e (List.mem_of_getElem? he)
      subst hzz
      exact ⟨ad, e1, hcell⟩
    case ne a k => subst hp; exact main [] l (some a) k (fun _ _ => undef) (by simp) (by simp) (by simp) (by simp)
  case nl => simp only [Option.some.injEq] at hp; subst hp; exact main [] true none 0 (fun _ _ => undef) (by simp) (by simp) (by simp) (by simp)
  case e0 A => simp only [Option.some.injEq] at hp; subst hp; exact main [] true A 0 (fun _ _ => undef) (by simp) (by simp) (by simp) (by simp)
  case row id ver off len k A hid hver hk hrow =>
    split at hp <;> try cases hp
    rename_i z' es l hr
    split at hp <;> simp only [Option.some.injEq, reduceCtorEq] at hp
    rename_i hl
    subst hp
    obtain ⟨h4, h5⟩ := hrow _ _ _ hr
    obtain ⟨h6, h7, h8, h9⟩ := hM.blk _ _ (rowOf_some hr)
    have get : ∀ (i : Nat) (e : List T), ((es.drop off).take len)[i]? = some e → i < len ∧ es[off + i]? = some e := fun i e he => by
      have hi : i < len := by have := (List.getElem?_eq_some_iff.1 he).1; simp at this; omega
      rw [List.getElem?_take_of_lt hi, List.getElem?_drop] at he
      exact ⟨hi, he⟩
    have hlen : ((es.drop off).take len).length = len := by simp; omega
    by_cases hpos : 0 < len
    · obtain ⟨h10, h11, rcs, t, hh, hsz, hcell⟩ := h9 (by omega)
      have hzz : z' = z := by
        obtain ⟨e, he⟩ := list_get (l := (es.drop off).take len) (j := 0) (by omega)
        rw [← h8 _ _ (get 0 e he).2]
        exact hz e (List.mem_of_getElem? he)
      subst hzz
      have := main ((es.drop off).take len) l A k (fun i j => (rcs[(off + i) * z' + j]?).getD undef) hz (by omega) (fun _ => ⟨_, h5 (by omega), fun i j hi hj => by
        rw [hlen] at hi
        have hin : (off + i) * z' + j < rcs.size := by
          have : (off + i + 1) * z' ≤ (m.ψ id).2 * z' := Nat.mul_le_mul_right _ (by omega)
          rw [Nat.add_mul] at this
          omega
        rw [add_lit, add_lit, cell_lit hh, show 0 + off * z' + (i * z' + j) = (off + i) * z' + j by rw [Nat.add_mul]; omega]
        simp [hin]⟩) (fun i j e x he hx => by
        obtain ⟨v, hv, hrep⟩ := hcell _ _ _ _ (get i e he).2 hx
        simp only [hv, Option.getD_some]
        exact hrep)
      rw [hlen] at this ⊢
      exact this
    · obtain rfl : len = 0 := by omega
      have := main [] l A k (fun _ _ => undef) (by simp) (by simp) (by simp) (by simp)
      simpa using this
  case vs id off len z' k A hid hk hA =>
    split at hp <;> try cases hp
    rename_i cs hcs
    split at hp <;> try cases hp
    rename_i xs l hxs
    split at hp <;> simp only [Option.some.injEq, reduceCtorEq] at hp
    rename_i hl
    obtain ⟨hl, hroom⟩ := hl
    subst hp
    have hchunk : ∀ (n : Nat) (xs : List T), xs.length = n * z' → (chunk z' n xs).length = n ∧ ∀ (i j : Nat) (e : List T) (x : T), (chunk z' n xs)[i]? = some e → e[j]? = some x → e.length = z' ∧ xs[i * z' + j]? = some x := by
      intro n
      induction n with
      | zero => intro xs _; simp [chunk]
      | succ n ih =>
        intro xs hx
        have hx' : (xs.drop z').length = n * z' := by simp [hx, Nat.add_mul]
        obtain ⟨h1, h2⟩ := ih (xs.drop z') hx'
        refine ⟨by simp [chunk, h1], fun i j e x he hj => ?_⟩
        cases i with
        | zero =>
          simp [chunk] at he
          subst he
          have : (xs.take z').length = z' := by simp [hx, Nat.add_mul]
          have hjl := (List.getElem?_eq_some_iff.1 hj).1
          refine ⟨this, ?_⟩
          rw [List.getElem?_take_of_lt (by omega)] at hj
          simpa using hj
        | succ i =>
          simp [chunk] at he
          obtain ⟨h3, h4⟩ := h2 i j e x he hj
          refine ⟨h3, ?_⟩
          rw [List.getElem?_drop] at h4
          rw [← h4]
          congr 1
          rw [Nat.add_mul]
          omega
    obtain ⟨hpl, hpg⟩ := plains_get hxs
    have hxl : xs.length = len * z' := by
      simp only [List.length_take, List.length_drop] at hpl
      omega
    obtain ⟨hcl, hcg⟩ := hchunk len xs hxl
    obtain ⟨rcs, ty, hh, hsz, hvr⟩ := hM.var_cells (Sub.var (h := h) (fun _ _ h => h) hcs)
    by_cases hpos : 0 < len
    · have hzz : z' = z := by
        obtain ⟨e, he⟩ := list_get (l := chunk z' len xs) (j := 0) (by omega)
        have := hz e (List.mem_of_getElem? he)
        obtain ⟨x, hx⟩ := list_get (l := e) (j := 0) (by omega)
        rw [← (hcg 0 0 e x he hx).1]
        exact this
      subst hzz
      have := main (chunk z' len xs) l A k (fun i j => (rcs[off + (i * z' + j)]?).getD undef) hz (by omega) (fun _ => ⟨_, hA (by omega), fun i j hi hj => by
        rw [hcl] at hi
        have hin : off + (i * z' + j) < rcs.size := by
          have : (i + 1) * z' ≤ len * z' := Nat.mul_le_mul_right _ (by omega)
          rw [Nat.add_mul] at this
          omega
        rw [add_lit, cell_lit hh]
        simp [hin]⟩) (fun i j e x he hx => by
        obtain ⟨h2, h3⟩ := hcg i j e x he hx
        have hj := (List.getElem?_eq_some_iff.1 hx).1
        have hi := (List.getElem?_eq_some_iff.1 he).1
        rw [hcl] at hi
        have hin : i * z' + j < len * z' := by
          have : (i + 1) * z' ≤ len * z' := Nat.mul_le_mul_right _ (by omega)
          rw [Nat.add_mul] at this
          omega
        obtain ⟨u, hu⟩ := list_get (l := (cs.drop off).take (len * z')) (j := i * z' + j) (by simp; omega)
        obtain ⟨q', hq1, hq2, hq3⟩ := hpg _ u hu
        rw [h3] at hq2
        simp only [Option.some.injEq] at hq2
        have hcu : cs[off + (i * z' + j)]? = some u := by
          rw [List.getElem?_take_of_lt hin, List.getElem?_drop] at hu
          exact hu
        have hlt : off + (i * z' + j) < rcs.size := by rw [hsz]; exact (List.getElem?_eq_some_iff.1 hcu).1
        have hv0 : rcs[off + (i * z' + j)]? = some rcs[off + (i * z' + j)] := by simp [hlt]
        rw [hv0]
        simp only [Option.getD_some]
        rw [hq2]
        exact ok_mono (l := q'.2) (l' := l) hq3 (plain_rep hq1 (hvr _ _ _ hv0 hcu)))
      rw [hcl] at this ⊢
      exact this
    · obtain rfl : len = 0 := by omega
      have := main [] l A k (fun _ _ => undef) (by simp) (by simp) (by simp) (by simp)
      simpa [chunk] using this
end
end Go.Proofs.Ytadnjellfiafaaa.Pm
