/- The abstract machine, thirteenth part: slice literals, make, append. No law of Go's is stated here. -/
import Derived.Test.YtadnjellfiafaaaPmL
set_option linter.all false
namespace Go.Proofs.Ytadnjellfiafaaa.Pm
open Go Go.RowKit

section
variable {P : Program} {w w' : World} {c : Ct} {m m' : Mp} {h h' h1 : H} {ti : Nat → Option TI} {tm : Tm} {a : Act}

/-- A slice literal's cells. -/
def RowR (w : World) (B : Nat → Prop) (z : Nat) (real : Array Value) (es : List (List T)) : Prop :=
  real.size = es.length * z ∧ (∀ (i : Nat) (e : List T), es[i]? = some e → e.length = z) ∧
  ∀ (i j : Nat) (e : List T) (x : T), es[i]? = some e → e[j]? = some x → ∃ v, real[i * z + j]? = some v ∧ Rep w B v x

theorem fillS_sound (hS : Sat c m h tm a w) (hs : Sub h1 h) (z : Nat) : ∀ (ps : List (Nat × Operand)) (es : List (List T)) (r : List (List T) × Bool × List (Nat × Blk)) (real : Array Value) (ids0 : List Nat) (l0 : Bool),
    RowR w (gok m c.B ids0 l0) z real es → fillS h tm z ps es = some r →
    ∃ ids, r.2.2 = ids.map (fun i => (i, .gone)) ∧ (∀ id ∈ ids, ∃ ver z es l, h id = some (.row ver z es l)) ∧ r.1.length = es.length ∧
      ∃ real', Instr.fill (fun i => some (i * z, z)) real (ps.map fun p => (p.1, a.eval p.2)) = some real' ∧ RowR w (gok m c.B (ids0 ++ ids) (l0 && r.2.1)) z real' r.1
  | [], es, r, real, ids0, l0, hr, hf => by
    simp [fillS] at hf
    subst hf
    exact ⟨[], rfl, by simp, rfl, real, by simp [Instr.fill], by simpa using hr⟩
  | (k, x) :: ps, es, r, real, ids0, l0, hr, hf => by
    simp only [fillS] at hf
    split at hf <;> try cases hf
    rename_i v hx
    split at hf <;> try cases hf
    rename_i cs hcells
    split at hf <;> try cases hf
    rename_i new l u hembs
    split at hf <;> try cases hf
    rename_i hcond
    obtain ⟨hc1, hc2⟩ := hcond
    split at hf <;> simp only [Option.some.injEq, reduceCtorEq] at hf
    rename_i es' l' u' hrec
    subst hf
    obtain ⟨hsz, hvr⟩ := cells_vr hcells (ev_vr hS hx)
    obtain ⟨ids1, e1, r1, hlen, p1⟩ := embs_rep hS.mem hembs (rvs := (a.eval x).cells.toList) (by simpa using hsz) (fun j v' x' hv hx' => hvr j v' x' (by simpa using hv) hx')
    simp only at e1 hlen p1
    have hkz : k * z + z ≤ real.size := by
      rw [hr.1]
      have : (k + 1) * z ≤ es.length * z := Nat.mul_le_mul_right _ hc2
      rw [Nat.add_mul] at this
      omega
    obtain ⟨real1, f1, f2, f3⟩ := fill_one (fun i => some (i * z, z)) real k (a.eval x) (ps.map fun p => (p.1, a.eval p.2)) (off := k * z) (z := z) rfl (by rw [hsz, ← hlen]; exact hc1) hkz
    have hr1 : RowR w (gok m c.B (ids0 ++ ids1) (l0 && l)) z real1 (es.set k new) := by
      refine ⟨by rw [f2, hr.1]; simp, fun i e he => ?_, fun i j e y he hy => ?_⟩
      · by_cases hik : k = i
        · subst hik
          rw [List.getElem?_set_self hc2] at he
          simp only [Option.some.injEq] at he
          subst he
          exact hc1
        · rw [List.getElem?_set_ne hik] at he
          exact hr.2.1 i e he
      · by_cases hik : k = i
        · subst hik
          rw [List.getElem?_set_self hc2] at he
          simp only [Option.some.injEq] at he
          subst he
          have hj := (List.getElem?_eq_some_iff.1 hy).1
          rw [f3, if_pos (by omega), show k * z + j - k * z = j by omega]
          have hjlt : j < (a.eval x).cells.size := by rw [hsz, ← hlen]; exact hj
          have hv0 : (a.eval x).cells[j]? = some (a.eval x).cells[j] := by simp [hjlt]
          exact ⟨_, hv0, gok_mono (fun i hi => List.mem_append_right _ hi) (by simp) (p1 j _ y (by simpa using hv0) hy)⟩
        · rw [List.getElem?_set_ne hik] at he
          obtain ⟨v', hv', hrep⟩ := hr.2.2 i j e y he hy
          have hj := (List.getElem?_eq_some_iff.1 hy).1
          rw [hr.2.1 i e he] at hj
          have hnot : ¬ (k * z ≤ i * z + j ∧ i * z + j < k * z + z) := by
            rintro ⟨h2, h3⟩
            rcases Nat.lt_or_gt_of_ne hik with hlt | hgt
            · have : (k + 1) * z ≤ i * z := Nat.mul_le_mul_right _ hlt
              rw [Nat.add_mul] at this
              omega
            · have : (i + 1) * z ≤ k * z := Nat.mul_le_mul_right _ hgt
              rw [Nat.add_mul] at this
              omega
          rw [f3, if_neg hnot]
          exact ⟨v', hv', gok_mono (fun i hi => List.mem_append_left _ hi) (by simp; intro a _; exact a) hrep⟩
    obtain ⟨ids2, e2, r2, hlen2, real', g1, g2⟩ := fillS_sound hS hs z ps _ _ real1 (ids0 ++ ids1) (l0 && l) hr1 hrec
    simp only at e2 hlen2 g2
    refine ⟨ids1 ++ ids2, by simp [e1, e2], fun id hid => ?_, by simp [hlen2], real', by simp only [List.map_cons]; rw [f1]; exact g1, ?_⟩
    · rcases List.mem_append.1 hid with h | h
      · exact r1 id h
      · exact r2 id h
    · rw [← List.append_assoc, ← Bool.and_assoc]
      exact g2

/-- Cells that repeat a zero. -/
theorem zeros_row {B0 : Nat → Prop} {z : Nat} {zs : List T} (zc : Array Value) (hz : zc.size = z) (hzs : zs.length = z) (hr : ∀ (j : Nat) (u : Value) (x : T), zc[j]? = some u → zs[j]? = some x → Rep w B0 u x) (n k : Nat) (hk : n ≤ k) (h0 : 0 < z) :
    ∀ (i j : Nat) (e : List T) (x : T), (List.replicate n zs)[i]? = some e → e[j]? = some x → ∃ v, (madeCells zc (k * z))[i * z + j]? = some v ∧ Rep w B0 v x := by
  intro i j e x he hx
  rw [List.getElem?_replicate] at he
  split at he <;> simp only [Option.some.injEq, reduceCtorEq] at he
  rename_i hi
  subst he
  have hj := (List.getElem?_eq_some_iff.1 hx).1
  have hlt : i * z + j < k * z := by
    have : (i + 1) * z ≤ k * z := Nat.mul_le_mul_right _ (by omega)
    rw [Nat.add_mul] at this
    omega
  have hjz : j < zc.size := by omega
  refine ⟨zc[j], ?_, hr j _ x (by simp [hjz]) hx⟩
  unfold madeCells
  rw [Array.getElem?_map, Array.getElem?_range]
  simp only [hlt, if_true, Option.map_some, Option.some.injEq]
  rw [hz, show (i * z + j) % z = j by rw [Nat.mul_comm, Nat.mul_add_mod, Nat.mod_eq_of_lt (by omega)]]
  simp [getElem!_pos, hjz]
end
end Go.Proofs.Ytadnjellfiafaaa.Pm
