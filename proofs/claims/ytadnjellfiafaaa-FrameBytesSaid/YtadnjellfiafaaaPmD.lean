/- The abstract machine, fourth part: when a world fits an abstract state ('Sat'), and how that is kept. No law of Go's is stated here. -/
import Derived.Test.YtadnjellfiafaaaPmC
set_option linter.all false
namespace Go.Proofs.Ytadnjellfiafaaa.Pm
open Go Go.RowKit

/-- A value reads as a tree; what it leads to lies in blocks of B. -/
inductive Rep (w : World) (B : Nat → Prop) : Value → T → Prop
  | i (k : IntKind) (n : Int) : Rep w B (.int k n) (.i k n)
  | b (x : Bool) : Rep w B (.bool x) (.b x)
  | s (x : ByteArray) : Rep w B (.string x) (.s x)
  | sl (A : Option Addr) (n c : Nat) (es : List (List T)) (z : Nat) (vals : Nat → Nat → Value) (hn : es.length = n) (hc : n ≤ c) (hm : n ≤ room) (hz0 : A = none → c = 0)
      (hz : ∀ (i : Nat) (e : List T), es[i]? = some e → e.length = z)
      (hA : 0 < n → ∃ ad, A = some ad ∧ B ad.block ∧ ∀ i j, i < n → j < z → w.cell? (ad.add (i * z + j)) = some (vals i j))
      (hv : ∀ (i j : Nat) (e : List T) (x : T), es[i]? = some e → e[j]? = some x → Rep w B (vals i j) x) : Rep w B (.slice A n c) (.sl es)
  | nl : Rep w B (.slice none 0 0) .nl
  | ne (a : Addr) (c : Nat) : Rep w B (.slice (some a) 0 c) .ne
  | agg (vs : Array Value) (cs : List T) (hs : vs.size = cs.length) (h : ∀ (j : Nat) (v : Value) (x : T), vs[j]? = some v → cs[j]? = some x → Rep w B v x) : Rep w B (.agg vs) (.agg cs)
  | tup (vs : Array Value) (cs : List T) (hs : vs.size = cs.length) (h : ∀ (j : Nat) (v : Value) (x : T), vs[j]? = some v → cs[j]? = some x → Rep w B v x) : Rep w B (.tuple vs) (.tup cs)
  | pt (a : Addr) (cs : List T) (vals : Nat → Value) (hB : B a.block) (hc : ∀ j, j < cs.length → w.cell? (a.add j) = some (vals j))
      (hv : ∀ (j : Nat) (x : T), cs[j]? = some x → Rep w B (vals j) x) : Rep w B (.pointer (some a)) (.pt cs)
  | fn (f : Nat) (vs : Array Value) (cs : List T) (hs : vs.size = cs.length) (h : ∀ (j : Nat) (v : Value) (x : T), vs[j]? = some v → cs[j]? = some x → Rep w B v x) : Rep w B (.func (.func f) #[] vs) (.fn f cs)

theorem block_add (a : Addr) (n : Nat) : (a.add n).block = a.block := by unfold Addr.add; split <;> rfl
theorem add_add' (a : Addr) (i j : Nat) : (a.add i).add j = a.add (i + j) := by
  unfold Addr.add
  by_cases hi : i = 0 <;> by_cases hj : j = 0 <;> simp [hi, hj, Nat.add_assoc]
theorem cell_block {w w' : World} {a : Addr} (h : w'.heap[a.block]? = w.heap[a.block]?) : w'.cell? a = w.cell? a := by simp only [World.cell?, h]

theorem Rep.mono {w w' : World} {B B' : Nat → Prop} {v : Value} {x : T} (h : Rep w B v x) (hB : ∀ b, B b → B' b) (hw : ∀ b, B b → w'.heap[b]? = w.heap[b]?) : Rep w' B' v x := by
  induction h with
  | i k n => exact .i k n
  | b x => exact .b x
  | s x => exact .s x
  | ne a c => exact .ne a c
  | sl A n c es z vals hn hc hm hz0 hz hA hv ih =>
    refine .sl A n c es z vals hn hc hm hz0 hz (fun h0 => ?_) ih
    obtain ⟨ad, e, hb, hcell⟩ := hA h0
    exact ⟨ad, e, hB _ hb, fun i j hi hj => (cell_block (by rw [block_add]; exact hw _ hb)).trans (hcell i j hi hj)⟩
  | nl => exact .nl
  | agg vs cs hs h ih => exact .agg vs cs hs ih
  | tup vs cs hs h ih => exact .tup vs cs hs ih
  | pt a cs vals hb hc hv ih => exact .pt a cs vals (hB _ hb) (fun j hj => (cell_block (by rw [block_add]; exact hw _ hb)).trans (hc j hj)) ih
  | fn f vs cs hs h ih => exact .fn f vs cs hs ih

/-- Where the call's own blocks lie: a variable's block; a row's block and its places; what nobody writes any more. -/
structure Mp where
  φ : Nat → Nat
  ψ : Nat → Nat × Nat
  st : Nat → Prop

/-- In stable memory; if l, made by this call. -/
def Mp.ok (m : Mp) (B : Nat) (l : Bool) : Nat → Prop := fun b => m.st b ∧ (l = true → B ≤ b)

/-- No row has a version beyond. -/
def verOK (h : H) (id ver : Nat) : Prop := ∀ v' z es l, h id = some (.row v' z es l) → ver ≤ v'

inductive VR (m : Mp) (B : Nat) (h : H) (w : World) : Value → AV → Prop
  | t (v : Value) (x : T) (l : Bool) (hr : Rep w (m.ok B l) v x) : VR m B h w v (.t x l)
  | nl : VR m B h w (.slice none 0 0) .nl
  | e0 (A : Option Addr) : VR m B h w (.slice A 0 0) .e0
  | row (id ver off len c : Nat) (A : Option Addr) (hid : (h id).isSome = true) (hver : verOK h id ver) (hc : len ≤ c)
      (hr : ∀ z es l, rowOf h id ver = some (z, es, l) → off + c ≤ (m.ψ id).2 ∧ (0 < c → A = some ((⟨(m.ψ id).1, 0, none⟩ : Addr).add (off * z)))) : VR m B h w (.slice A len c) (.row id ver off len)
  | vs (id off len z c : Nat) (A : Option Addr) (hid : (h id).isSome = true) (hc : len ≤ c) (hA : 0 < c → A = some ⟨m.φ id, off, none⟩) : VR m B h w (.slice A len c) (.vs id off len z)
  | ptr (id off : Nat) (hid : (h id).isSome = true) : VR m B h w (.pointer (some ⟨m.φ id, off, none⟩)) (.ptr id off)
  | eptr (id ver i j : Nat) (a : Addr) (hid : (h id).isSome = true) (hver : verOK h id ver)
      (hr : ∀ z es l, rowOf h id ver = some (z, es, l) → a = (⟨(m.ψ id).1, 0, none⟩ : Addr).add (i * z + j)) : VR m B h w (.pointer (some a)) (.eptr id ver i j)
  | fn (f : Nat) (vs : Array Value) (cs : List AV) (hs : vs.size = cs.length) (hv : ∀ (j : Nat) (v : Value) (x : AV), vs[j]? = some v → cs[j]? = some x → VR m B h w v x) : VR m B h w (.func (.func f) #[] vs) (.fn f cs)
  | agg (vs : Array Value) (cs : List AV) (hs : vs.size = cs.length) (hv : ∀ (j : Nat) (v : Value) (x : AV), vs[j]? = some v → cs[j]? = some x → VR m B h w v x) : VR m B h w (.agg vs) (.agg cs)
  | tup (vs : Array Value) (cs : List AV) (hs : vs.size = cs.length) (hv : ∀ (j : Nat) (v : Value) (x : AV), vs[j]? = some v → cs[j]? = some x → VR m B h w v x) : VR m B h w (.tuple vs) (.tup cs)

/-- What stays when blocks are made, written or handed on. -/
structure Ext (m : Mp) (h : H) (w : World) (m' : Mp) (h' : H) (w' : World) : Prop where
  known : ∀ id, (h id).isSome = true → (h' id).isSome = true
  φ : ∀ id, (h id).isSome = true → m'.φ id = m.φ id
  ver : ∀ id v' z es l, (h id).isSome = true → h' id = some (.row v' z es l) → ∃ v0 z0 es0 l0, h id = some (.row v0 z0 es0 l0) ∧ v0 ≤ v'
  ψ : ∀ id ver z es l, (h id).isSome = true → verOK h id ver → rowOf h' id ver = some (z, es, l) → (∃ es0 l0, rowOf h id ver = some (z, es0, l0)) ∧ m'.ψ id = m.ψ id
  st : ∀ b, m.st b → m'.st b
  heap : ∀ b, m.st b → w'.heap[b]? = w.heap[b]?

theorem Ext.kept {m m' : Mp} {h h' : H} {w w' w0 : World} {st : Nat → Prop} (he : Ext m h w m' h' w') (hk : ∀ b, st b → m.st b ∧ w.heap[b]? = w0.heap[b]?) : ∀ b, st b → m'.st b ∧ w'.heap[b]? = w0.heap[b]? :=
  fun b hb => ⟨he.st b (hk b hb).1, (he.heap b (hk b hb).1).trans (hk b hb).2⟩
theorem Ext.refl (m : Mp) (h : H) (w : World) : Ext m h w m h w := ⟨fun _ h => h, fun _ _ => rfl, fun _ v' z es l _ hh => ⟨v', z, es, l, hh, Nat.le_refl _⟩, fun _ _ _ es l _ _ hr => ⟨⟨es, l, hr⟩, rfl⟩, fun _ h => h, fun _ _ => rfl⟩

theorem Ext.verOK {m m' : Mp} {h h' : H} {w w' : World} (he : Ext m h w m' h' w') {id ver : Nat} (hid : (h id).isSome = true) (hv : verOK h id ver) : verOK h' id ver := fun v' z es l hh => by
  obtain ⟨v0, z0, es0, l0, h0, hle⟩ := he.ver id v' z es l hid hh
  exact Nat.le_trans (hv _ _ _ _ h0) hle

theorem VR.mono {m m' : Mp} {B : Nat} {h h' : H} {w w' : World} {v : Value} {x : AV} (hv : VR m B h w v x) (he : Ext m h w m' h' w') : VR m' B h' w' v x := by
  induction hv with
  | t v x l hr => exact .t v x l (hr.mono (fun b hb => ⟨he.st b hb.1, hb.2⟩) (fun b hb => he.heap b hb.1))
  | nl => exact .nl
  | e0 A => exact .e0 A
  | row id ver off len c A hid hver hc hr =>
    refine .row id ver off len c A (he.known _ hid) (he.verOK hid hver) hc fun z es l hrow => ?_
    obtain ⟨⟨es0, l0, h0⟩, hψ⟩ := he.ψ _ _ _ _ _ hid hver hrow
    rw [hψ]
    exact hr _ _ _ h0
  | vs id off len z c A hid hc hA => exact .vs id off len z c A (he.known _ hid) hc (by rw [he.φ _ hid]; exact hA)
  | ptr id off hid => rw [← he.φ _ hid]; exact .ptr id off (he.known _ hid)
  | eptr id ver i j a hid hver hr =>
    refine .eptr id ver i j a (he.known _ hid) (he.verOK hid hver) fun z es l hrow => ?_
    obtain ⟨⟨es0, l0, h0⟩, hψ⟩ := he.ψ _ _ _ _ _ hid hver hrow
    rw [hψ]
    exact hr _ _ _ h0
  | fn f vs cs hs hv ih => exact .fn f vs cs hs ih
  | agg vs cs hs hv ih => exact .agg vs cs hs ih
  | tup vs cs hs hv ih => exact .tup vs cs hs ih

/-- The memory of one of the call's own blocks is what is said of it. -/
def BlkOK (m : Mp) (B : Nat) (h : H) (w : World) (id : Nat) : Blk → Prop
  | .var cs => B ≤ m.φ id ∧ ¬ m.st (m.φ id) ∧ ∃ rcs t, w.heap[m.φ id]? = some (.cells rcs t (0, 0)) ∧ rcs.size = cs.length ∧ ∀ (j : Nat) (v : Value) (x : AV), rcs[j]? = some v → cs[j]? = some x → VR m B h w v x
  | .row _ z es l => es.length ≤ (m.ψ id).2 ∧ es.length ≤ room ∧ (∀ (i : Nat) (e : List T), es[i]? = some e → e.length = z) ∧ (0 < (m.ψ id).2 → B ≤ (m.ψ id).1 ∧ ¬ m.st (m.ψ id).1 ∧
      ∃ rcs t, w.heap[(m.ψ id).1]? = some (.cells rcs t (0, 0)) ∧ (m.ψ id).2 * z ≤ rcs.size ∧
        ∀ (i j : Nat) (e : List T) (x : T), es[i]? = some e → e[j]? = some x → ∃ v, rcs[i * z + j]? = some v ∧ Rep w (m.ok B l) v x)
  | .gone => True

/-- The block of a variable, or of a row that has places. -/
def placeB (m : Mp) (id : Nat) : Blk → Option Nat
  | .var _ => some (m.φ id)
  | .row .. => if 0 < (m.ψ id).2 then some (m.ψ id).1 else none
  | .gone => none
def place (m : Mp) (h : H) (id : Nat) : Option Nat :=
  match h id with
  | some b => placeB m id b
  | none => none

structure Ct where
  P : Program
  w0 : World
  st : Nat → Prop
  n : Nat
  B : Nat := w0.heap.size
  hB : B ≤ w0.heap.size := by exact Nat.le_refl _

/-- The memory fits. -/
structure Mem (c : Ct) (m : Mp) (h : H) (w : World) : Prop where
  below : Below c.B c.w0 w
  kept : ∀ b, c.st b → m.st b ∧ w.heap[b]? = c.w0.heap[b]?
  blk : ∀ id b, h id = some b → BlkOK m c.B h w id b
  sep : ∀ i j g, place m h i = some g → place m h j = some g → i = j
  stlt : ∀ b, m.st b → b < w.heap.size
  stin : ∀ b, m.st b → c.st b ∨ c.B ≤ b

theorem Mem.bsize {c : Ct} {m : Mp} {h : H} {w : World} (hM : Mem c m h w) : c.B ≤ w.heap.size := Nat.le_trans c.hB hM.below.size

/-- The frame fits. -/
structure Sat (c : Ct) (m : Mp) (h : H) (tm : Tm) (a : Act) (w : World) : Prop where
  mem : Mem c m h w
  defers : a.defers = []
  size : c.n ≤ a.tmps.size
  tmps : ∀ t v, tm t = some v → t < a.tmps.size ∧ VR m c.B h w (a.tmps.getD t undef) v

theorem gt_some {tm : Tm} {t : Nat} {v : AV} (h : gt tm t = some v) : tm t = some v := h

theorem cT_rep {w : World} {B : Nat → Prop} {v : Value} {x : T} (h : cT v = some x) : Rep w B v x := by
  unfold cT at h
  split at h <;> simp only [Option.some.injEq, reduceCtorEq] at h <;> subst h
  · exact .i _ _
  · exact .b _
  · exact .s _
  · exact .sl none 0 0 [] 0 (fun _ _ => undef) rfl (Nat.le_refl _) (by unfold room; omega) (fun _ => rfl) (by simp) (by simp) (by simp)

theorem cTs_get : ∀ {vs : List Value} {xs : List T}, cTs vs = some xs → vs.length = xs.length ∧ ∀ (j : Nat) (v : Value) (x : T), vs[j]? = some v → xs[j]? = some x → cT v = some x
  | [], xs, h => by simp [cTs] at h; subst h; simp
  | v :: vs, xs, h => by
    simp only [cTs] at h
    split at h
    · rename_i x ys h1 h2
      simp only [Option.some.injEq] at h
      subst h
      obtain ⟨hl, hg⟩ := cTs_get h2
      refine ⟨by simp [hl], fun j u y hu hy => ?_⟩
      cases j with
      | zero => simp at hu hy; subst hu; subst hy; exact h1
      | succ j => simp at hu hy; exact hg j u y hu hy
    · cases h

theorem cAV_vr {m : Mp} {B : Nat} {h : H} {w : World} {v : Value} {x : AV} (hx : cAV v = some x) : VR m B h w v x := by
  unfold cAV at hx
  split at hx
  · simp at hx; subst hx; exact .nl
  · rename_i cs
    simp only [Option.map_eq_some_iff] at hx
    obtain ⟨l, hl, rfl⟩ := hx
    obtain ⟨h1, h2⟩ := cTs_get hl
    exact .t _ _ _ (.agg _ _ (by simpa using h1) fun j v x hv hx => cT_rep (h2 j v x (by simpa using hv) hx))
  · simp at hx; subst hx; exact .t _ _ _ (.i _ _)
  · simp at hx; subst hx; exact .t _ _ _ (.b _)
  · simp at hx; subst hx; exact .t _ _ _ (.s _)
  · cases hx

theorem ev_vr {c : Ct} {m : Mp} {h : H} {tm : Tm} {a : Act} {w : World} (hS : Sat c m h tm a w) {o : Operand} {x : AV} (hx : ev tm o = some x) : VR m c.B h w (a.eval o) x := by
  cases o with
  | tmp t => exact (hS.tmps t x (gt_some hx)).2
  | const v => exact cAV_vr hx
  | global g => cases hx
  | func f =>
    simp [ev] at hx
    subst hx
    exact .fn f #[] [] rfl (by simp)

/-- A slot is written. -/
theorem Sat.put {c : Ct} {m : Mp} {h : H} {tm : Tm} {a : Act} {w : World} (hS : Sat c m h tm a w) (d : Option Nat) (hd : ∀ t, d = some t → t < c.n) {v : Value} {x : AV} (hv : VR m c.B h w v x) : Sat c m h (pt tm d (some x)) (a.put d v) w := by
  cases d with
  | none => exact hS
  | some d =>
    have hlt : d < a.tmps.size := Nat.lt_of_lt_of_le (hd d rfl) hS.size
    refine ⟨hS.mem, hS.defers, by simpa [Act.put] using hS.size, fun t y hy => ?_⟩
    simp only [pt, up] at hy
    by_cases htd : t = d
    · subst htd
      rw [if_pos rfl] at hy
      simp only [Option.some.injEq] at hy
      subst hy
      refine ⟨by simpa [Act.put] using hlt, ?_⟩
      simpa [Act.put, Array.getD, hlt] using hv
    · rw [if_neg htd] at hy
      obtain ⟨h1, h2⟩ := hS.tmps t y hy
      refine ⟨by simpa [Act.put] using h1, ?_⟩
      simpa [Act.put, Array.getD_eq_getD_getElem?, Array.getElem?_setIfInBounds_ne (Ne.symm htd)] using h2
theorem Sat.drop {c : Ct} {m : Mp} {h : H} {tm : Tm} {a : Act} {w : World} (hS : Sat c m h tm a w) (d : Option Nat) (v : Value) : Sat c m h (pt tm d none) (a.put d v) w := by
  cases d with
  | none => exact hS
  | some d =>
    refine ⟨hS.mem, hS.defers, by simpa [Act.put] using hS.size, fun t y hy => ?_⟩
    simp only [pt, up] at hy
    by_cases htd : t = d
    · subst htd
      rw [if_pos rfl] at hy
      cases hy
    · rw [if_neg htd] at hy
      obtain ⟨h1, h2⟩ := hS.tmps t y hy
      refine ⟨by simpa [Act.put] using h1, ?_⟩
      simpa [Act.put, Array.getD_eq_getD_getElem?, Array.getElem?_setIfInBounds_ne (Ne.symm htd)] using h2
end Go.Proofs.Ytadnjellfiafaaa.Pm
