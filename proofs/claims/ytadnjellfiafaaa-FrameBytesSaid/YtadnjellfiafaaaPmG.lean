/- The abstract machine, seventh part: slices, places, parts. No law of Go's is stated here. -/
import Derived.Test.YtadnjellfiafaaaPmF
set_option linter.all false
namespace Go.Proofs.Ytadnjellfiafaaa.Pm
open Go Go.RowKit

section
variable {P : Program} {w : World} {c : Ct} {m : Mp} {h h1 : H} {ti : Nat → Option TI} {tm : Tm} {a : Act}

/-- A bound as the machine has it. -/
def BV (d : Nat) (v : Option Value) (p : Int) : Prop := (v = none ∧ p = d) ∨ ∃ k, v = some (.int k p)

theorem bound_bv (hS : Sat c m h tm a w) {d : Nat} {o : Option Operand} {p : Int} (hb : bound tm d o = some p) : BV d (o.map a.eval) p := by
  cases o with
  | none => simp [bound] at hb; exact .inl ⟨rfl, hb.symm⟩
  | some x =>
    simp only [bound] at hb
    split at hb
    · rename_i k n l hx
      simp at hb
      subst hb
      have := ev_vr hS hx
      generalize he : a.eval x = v at this
      cases this with
      | t _ _ _ hr => cases hr with | i k n => exact .inr ⟨k, by simp [he]⟩
    · cases hb

theorem run_sliceBounds (isS : Bool) {len cap : Nat} {lo hi : Option Value} {p q : Int} (hl : BV 0 lo p) (hh : BV len hi q) (h0 : 0 ≤ p) (h1 : p ≤ q) (h2 : q ≤ cap) :
    (Instr.sliceBounds isS len cap lo hi none).run P w = .ok (p.toNat, q.toNat, cap) w := by
  have eq : (q.toNat : Int) = q := Int.toNat_of_nonneg (by omega)
  rcases hl with ⟨rfl, rfl⟩ | ⟨k, rfl⟩ <;> rcases hh with ⟨rfl, rfl⟩ | ⟨k', rfl⟩
  · simp [Instr.sliceBounds]
  · have e1 := fun code => run_sliceBound (P := P) w k' q cap code (by omega) h2
    simp [Instr.sliceBounds, e1]
  · simp [Instr.sliceBounds, run_sliceBound, h0, h1]
  · have e1 := fun code => run_sliceBound (P := P) w k' q cap code (by omega) h2
    have e2 := fun code => run_sliceBound (P := P) w k p q.toNat code h0 (by omega)
    simp [Instr.sliceBounds, e1, e2]
theorem run_sliceBounds3 (isS : Bool) {len cap : Nat} {lo : Option Value} {kh km : IntKind} {p q r : Int} (hl : BV 0 lo p) (h0 : 0 ≤ p) (h1 : p ≤ q) (h2 : q ≤ r) (h3 : r ≤ cap) :
    (Instr.sliceBounds isS len cap lo (some (.int kh q)) (some (.int km r))).run P w = .ok (p.toNat, q.toNat, r.toNat) w := by
  have eq : (q.toNat : Int) = q := Int.toNat_of_nonneg (by omega)
  have er : (r.toNat : Int) = r := Int.toNat_of_nonneg (by omega)
  rcases hl with ⟨rfl, rfl⟩ | ⟨k, rfl⟩
  · have e1 := fun code => run_sliceBound (P := P) w km r cap code (by omega) h3
    have e2 := fun code => run_sliceBound (P := P) w kh q r.toNat code (by omega) (by omega)
    simp [Instr.sliceBounds, e1, e2]
  · have e1 := fun code => run_sliceBound (P := P) w km r cap code (by omega) h3
    have e2 := fun code => run_sliceBound (P := P) w kh q r.toNat code (by omega) (by omega)
    have e3 := fun code => run_sliceBound (P := P) w k p q.toNat code h0 (by omega)
    simp [Instr.sliceBounds, e1, e2, e3]

theorem run_sliceAt_any {t e : TypeId} {i : TI} (hu : P.underlying t = some (.slice e)) (hT : TIr P e i) (A : Option Addr) (len cap : Nat) (lo hi mx : Option Value) {l r k : Nat}
    (hb : (Instr.sliceBounds true len cap lo hi mx).run P w = .ok (l, r, k) w) :
    (Instr.sliceAt t (.slice A len cap) lo hi mx).run P w = .ok (.slice (if k = l then A else A.map (·.add (l * i.sz))) (r - l) (k - l)) w := by
  simp [Instr.sliceAt, Instr.slice, run_underlying hu, hb, hT.run_size]

theorem cut3_some {n : Nat} {lo hi : Option Int} {mx : Option (Option Int)} {p : Prop} {o k : Nat} {e : Bool} (hc : cut3 n lo hi mx = some (p, o, k, e)) :
    ∃ x y, lo = some x ∧ hi = some y ∧ o = x.toNat ∧ k = (y - x).toNat ∧ ((mx = none ∧ e = false ∧ p = (0 ≤ x ∧ x ≤ y ∧ y ≤ n)) ∨ ∃ r, mx = some (some r) ∧ e = decide (r = x) ∧ p = (0 ≤ x ∧ x ≤ y ∧ y ≤ r ∧ r ≤ n)) := by
  unfold cut3 at hc
  split at hc <;> simp only [Option.some.injEq, Prod.mk.injEq, reduceCtorEq] at hc
  · obtain ⟨rfl, rfl, rfl, rfl⟩ := hc; exact ⟨_, _, rfl, rfl, rfl, rfl, .inl ⟨rfl, rfl, rfl⟩⟩
  · obtain ⟨rfl, rfl, rfl, rfl⟩ := hc; exact ⟨_, _, rfl, rfl, rfl, rfl, .inr ⟨_, rfl, rfl, rfl⟩⟩

/-- The bounds, whichever they are: from, to, the last that counts. -/
theorem slice_bounds (hS : Sat c m h tm a w) (isS : Bool) {n len cap : Nat} {lo hi mx : Option Operand} {p : Prop} {o k : Nat} {e : Bool}
    (hc : cut3 len (bound tm 0 lo) (bound tm len hi) (match mx, hi with
      | none, _ => none
      | some _, some _ => some (bound tm 0 mx)
      | some _, none => some none) = some (p, o, k, e)) (hp : p) (hcap : len ≤ cap) :
    ∃ r, (Instr.sliceBounds isS len cap (lo.map a.eval) (hi.map a.eval) (mx.map a.eval)).run P w = .ok (o, o + k, r) w ∧ o + k ≤ r ∧ r ≤ cap ∧ o + k ≤ len ∧ (e = true → r = o ∧ k = 0) := by
  obtain ⟨x, y, hx, hy, rfl, rfl, hrest⟩ := cut3_some hc
  have bx := bound_bv hS hx
  have by_ := bound_bv hS hy
  rcases hrest with ⟨hm, rfl, rfl⟩ | ⟨r, hm, rfl, rfl⟩
  · obtain ⟨h0, h1, h2⟩ := hp
    have : mx = none := by
      cases mx with
      | none => rfl
      | some v => cases hi <;> simp at hm
    subst this
    refine ⟨cap, ?_, by omega, by omega, by omega, by simp⟩
    rw [show x.toNat + (y - x).toNat = y.toNat by omega]
    exact run_sliceBounds isS bx by_ h0 h1 (by omega)
  · obtain ⟨h0, h1, h2, h3⟩ := hp
    cases mx with
    | none => simp at hm
    | some v =>
      cases hi with
      | none => simp at hm
      | some u =>
        simp only [Option.some.injEq] at hm
        have br := bound_bv hS hm
        rcases br with ⟨hn, _⟩ | ⟨kr, hr⟩
        · cases hn
        · rcases by_ with ⟨hn, _⟩ | ⟨kh, hh⟩
          · cases hn
          · refine ⟨r.toNat, ?_, by omega, by omega, by omega, fun e => by simp at e; subst e; omega⟩
            rw [hr, hh, show x.toNat + (y - x).toNat = y.toNat by omega]
            exact run_sliceBounds3 isS bx h0 h1 h2 (by omega)

theorem qSlice_sound (hP : TIok P ti) (hS : Sat c m h tm a w) (hs : Sub h1 h) {t : Nat} {v : AV} {rv : Value} (hv : VR m c.B h w rv v) {lo hi mx : Option Operand} {p : Prop} {x : AV} {us : List (Nat × Blk)}
    (hq : qSlice ti tm h1 t v lo hi mx = some (p, x, us)) (hp : p) :
    us = [] ∧ ∃ r, (Instr.sliceAt t rv (lo.map a.eval) (hi.map a.eval) (mx.map a.eval)).run P w = .ok r w ∧ VR m c.B h w r x := by
  unfold qSlice at hq
  simp only at hq
  split at hq
  · -- a slice that is read
    rename_i es l
    split at hq
    · rename_i i p' o n e hi' hc
      obtain ⟨et, hu, hT⟩ := elemOfS_some hP hi'
      cases hv with
      | t _ _ _ hr =>
        cases hr with
        | sl A len cap _ z vals hn hcap hroom hz0 hz hA hvv =>
          subst hn
          split at hq
          · simp only [Option.some.injEq, Prod.mk.injEq] at hq
            obtain ⟨rfl, rfl, rfl⟩ := hq
            obtain ⟨r, hb, h1', h2', h3', h4'⟩ := slice_bounds (P := P) (n := 0) hS true hc hp hcap
            obtain ⟨rfl, rfl⟩ := h4' rfl
            refine ⟨rfl, _, run_sliceAt_any hu hT A _ _ _ _ _ hb, ?_⟩
            simpa using VR.e0 _
          · simp only [Option.some.injEq, Prod.mk.injEq] at hq
            obtain ⟨rfl, rfl, rfl⟩ := hq
            obtain ⟨hp1, hp2⟩ := hp
            obtain ⟨r, hb, h1', h2', h3', _⟩ := slice_bounds (P := P) (n := 0) hS true hc hp1 hcap
            refine ⟨rfl, _, run_sliceAt_any hu hT A _ _ _ _ _ hb, .t _ _ _ ?_⟩
            refine .sl _ _ _ _ z (fun i j => vals (o + i) j) (by simp; omega) (by omega) (by omega) (fun e => by
              by_cases hk : r = o
              · omega
              · rw [if_neg hk] at e
                have := hz0 (by simpa using e)
                omega) (fun i e he => ?_) (fun h0 => ?_) (fun i j e x he hx => ?_)
            · rw [List.getElem?_take_of_lt (by have := (List.getElem?_eq_some_iff.1 he).1; simp at this; omega), List.getElem?_drop] at he
              exact hz _ _ he
            · obtain ⟨ad, hA', hB, hcell⟩ := hA (by omega)
              have hlt : o < es.length := by omega
              have hel := hz o _ (List.getElem?_eq_getElem hlt)
              rw [if_neg (by omega), hA']
              refine ⟨ad.add (o * i.sz), rfl, by rw [block_add]; exact hB, fun i' j hi hj => ?_⟩
              rw [add_add']
              have hoz : o * i.sz = o * z := by
                rcases hp2 with h0' | hall
                · rw [h0', Nat.zero_mul, Nat.zero_mul]
                · rw [← (hall _ (List.getElem_mem hlt)).1, hel]
              rw [hoz, ← Nat.add_assoc, ← Nat.add_mul]
              exact hcell (o + i') j (by omega) hj
            · rw [List.getElem?_take_of_lt (by have := (List.getElem?_eq_some_iff.1 he).1; simp at this; omega), List.getElem?_drop] at he
              exact hvv _ _ _ _ he hx
    · cases hq
  · -- a row
    rename_i id ver off len
    split at hq
    · rename_i i z es l' p' o n e hi' hrow hc
      simp only [Option.some.injEq, Prod.mk.injEq] at hq
      obtain ⟨rfl, rfl, rfl⟩ := hq
      obtain ⟨hp1, rfl⟩ := hp
      obtain ⟨et, hu, hT⟩ := elemOfS_some hP hi'
      cases hv with
      | row _ _ _ _ cap A hid hver hcap hr =>
        obtain ⟨r, hb, h1', h2', h3', _⟩ := slice_bounds (P := P) (n := 0) hS true hc hp1 hcap
        refine ⟨rfl, _, run_sliceAt_any hu hT A _ _ _ _ _ hb, ?_⟩
        rw [show o + n - o = n by omega]
        refine .row id ver (off + o) n (r - o) _ hid hver (by omega) fun z' es' l'' hrow' => ?_
        obtain ⟨h4, h5⟩ := hr _ _ _ hrow'
        refine ⟨by omega, fun h0 => ?_⟩
        have hzz : z' = i.sz := by
          have := (hs.row hrow).2
          rw [hrow'] at this
          simp at this
          exact this.1
        subst hzz
        rw [if_neg (by omega), h5 (by omega)]
        simp only [Option.map_some, add_add', Nat.add_mul]
    · cases hq
  · split at hq
    · rename_i i p' o n e hi' hc
      simp only [Option.some.injEq, Prod.mk.injEq] at hq
      obtain ⟨rfl, rfl, rfl⟩ := hq
      obtain ⟨et, hu, hT⟩ := elemOfS_some hP hi'
      cases hv
      obtain ⟨r, hb, h1', h2', h3', _⟩ := slice_bounds (P := P) (n := 0) hS true hc hp (Nat.le_refl _)
      obtain rfl : o = 0 := by omega
      obtain rfl : n = 0 := by omega
      obtain rfl : r = 0 := by omega
      refine ⟨rfl, _, run_sliceAt_any hu hT none _ _ _ _ _ hb, ?_⟩
      simpa using VR.nl
    · cases hq
  · split at hq
    · rename_i i p' o n e hi' hc
      simp only [Option.some.injEq, Prod.mk.injEq] at hq
      obtain ⟨rfl, rfl, rfl⟩ := hq
      obtain ⟨et, hu, hT⟩ := elemOfS_some hP hi'
      cases hv with
      | e0 A =>
        obtain ⟨r, hb, h1', h2', h3', _⟩ := slice_bounds (P := P) (n := 0) hS true hc hp (Nat.le_refl _)
        obtain rfl : o = 0 := by omega
        obtain rfl : n = 0 := by omega
        obtain rfl : r = 0 := by omega
        refine ⟨rfl, _, run_sliceAt_any hu hT A _ _ _ _ _ hb, ?_⟩
        simpa using VR.e0 A
    · cases hq
  · -- an array
    rename_i id off
    split at hq
    · rename_i k i cs hi' hcs
      split at hq
      · rename_i p' o n e hc
        simp only [Option.some.injEq, Prod.mk.injEq] at hq
        obtain ⟨rfl, rfl, rfl⟩ := hq
        obtain ⟨hp1, hp2⟩ := hp
        obtain ⟨et, hu, hT⟩ := elemOfA_some hP hi'
        cases hv with
        | ptr _ _ hid =>
          obtain ⟨r, hb, h1', h2', h3', _⟩ := slice_bounds (P := P) (n := 0) (mx := none) hS false (cap := k) hc hp1 (Nat.le_refl _)
          refine ⟨rfl, .slice (some (if r = o then (⟨m.φ id, off, none⟩ : Addr) else (⟨m.φ id, off, none⟩ : Addr).add (o * i.sz))) (o + n - o) (r - o), ?_, ?_⟩
          · simp only [Option.map_none] at hb
            simp [Instr.sliceAt, run_underlying hu, Instr.sureAddr, hb, hT.run_size]
          · rw [show o + n - o = n by omega]
            refine .vs id _ n _ (r - o) _ hid (by omega) fun h0 => ?_
            rw [if_neg (by omega), add_lit]
      · cases hq
    · cases hq
  · cases hq
end
end Go.Proofs.Ytadnjellfiafaaa.Pm
