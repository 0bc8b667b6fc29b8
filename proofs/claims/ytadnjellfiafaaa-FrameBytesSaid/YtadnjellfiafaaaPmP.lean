/- The abstract machine, sixteenth part: operations that make blocks, and all of them together. No law of Go's is stated here. -/
import Derived.Test.YtadnjellfiafaaaPmO
import Derived.Great.BuildSlice
set_option linter.all false
namespace Go.Proofs.Ytadnjellfiafaaa.Pm
open Go Go.RowKit

section
variable {P : Program} {w w' : World} {c : Ct} {m m' : Mp} {h h' h1 : H} {ti : Nat → Option TI} {tm : Tm} {a : Act}

theorem run_buildSlice' (w : World) (t e : TypeId) (len : Nat) (parts : Array (Nat × Value)) (cells : Array Value) (ie : TypeInfo) (z : Value)
    (hu : P.underlying t = some (.slice e)) (hie : P.info? e = some ie) (hz : ie.zero = some z) (hsmall : ¬ len * ie.size > 2 ^ 24)
    (h : Instr.fill (fun i => some (i * ie.size, ie.size)) (madeCells z.cells (len * ie.size)) parts.toList = some cells) :
    (Instr.buildSlice t len parts).run P w = .ok (.slice (some ⟨w.heap.size, 0, none⟩) len len) (w.alloc (.cells cells e)) := by
  by_cases h0 : len * ie.size = 0
  · have e0 : madeCells z.cells (len * ie.size) = #[] := by apply Array.eq_empty_of_size_eq_zero; rw [size_madeCells, h0]
    have hr0 : ∀ f : Nat → Value, (Array.range 0).map f = #[] := fun f => by apply Array.eq_empty_of_size_eq_zero; simp
    rw [e0] at h
    simp [Instr.buildSlice, run_underlying hu, sizeOf, typeInfo, hie, h0, newRow]
    rw [hr0, h]
    simp
  · exact run_buildSlice w t e len parts cells ie z hu hie hz hsmall h0 h

theorem uH_ne (h : H) {n : Nat} : ∀ (us : List (Nat × Blk)), (∀ u ∈ us, u.1 ≠ n) → uH h us n = h n
  | [], _ => rfl
  | u :: us, hu => by
    rw [uH_cons, uH_ne (setH h u.1 u.2) us (fun v hv => hu v (List.mem_cons_of_mem _ hv))]
    have := hu u (List.mem_cons_self ..)
    simp [setH, Ne.symm this]

theorem qBuildSlice_sound (hP : TIok P ti) (hS : Sat c m h tm a w) (hs : Sub h1 h) {n : Nat} (hn : h n = none) {t len : Nat} {ps : Array (Nat × Operand)} {i : TI} (hi : elemOfS ti t = some i)
    {es : List (List T)} {l : Bool} {u : List (Nat × Blk)} (hf : fillS h1 tm i.sz ps.toList (List.replicate len i.z) = some (es, l, u)) (hsm : len * i.sz ≤ 16777216) (h0 : 0 < i.sz) :
    ∃ r w' m', (Instr.buildSlice t len (ps.map fun (i, x) => (i, a.eval x))).run P w = .ok r w' ∧ Ext m h w m' (uH h (u ++ [(n, .row 0 i.sz es l)])) w' ∧
      Mem c m' (uH h (u ++ [(n, .row 0 i.sz es l)])) w' ∧ VR m' c.B (uH h (u ++ [(n, .row 0 i.sz es l)])) w' r (.row n 0 0 len) := by
  obtain ⟨et, hut, hT⟩ := elemOfS_some hP hi
  obtain ⟨inf, zv, hinf, hzv, hsz, hnb, hzs, _, hzl, hzr⟩ := zero_cells (m := m) (c := c) (h := h) (w := w) hT
  have hrow0 : RowR w (gok m c.B [] true) i.sz (madeCells zv.cells (len * i.sz)) (List.replicate len i.z) := by
    refine ⟨by simp [size_madeCells], fun k e he => ?_, zeros_row zv.cells hzs hzl (hzr _) len len (Nat.le_refl _) h0⟩
    rw [List.getElem?_replicate] at he
    split at he <;> simp only [Option.some.injEq, reduceCtorEq] at he
    rw [← he]; exact hzl
  obtain ⟨ids, hids, hidk, hlen, real, hfill, hR⟩ := fillS_sound hS hs i.sz ps.toList _ _ _ [] true hrow0 (fillS_sub hs hf)
  simp only [List.length_replicate, List.nil_append, Bool.true_and] at hids hlen hR
  subst hids
  obtain ⟨st', e1, M1, hst1, hst2⟩ := goesAll ids hS.mem (fun id hid => .inl (hidk id hid))
  have hnn : uH h (ids.map fun i => (i, Blk.gone)) n = none := by
    rw [uH_ne]; exact hn
    intro u hu e
    obtain ⟨k, hk, rfl⟩ := List.mem_map.1 hu
    obtain ⟨ver, z, es, l, hh⟩ := hidk k hk
    simp only at e
    rw [e, hn] at hh
    cases hh
  have hlr : len ≤ room := by
    have : len * 1 ≤ len * i.sz := Nat.mul_le_mul_left _ h0
    unfold room; omega
  obtain ⟨m', e2, M2, hψ⟩ := M1.newRow hnn real et i.sz len es l (by omega) (by omega) hR.2.1 (by rw [hR.1, hlen]; exact Nat.le_refl _) (fun p j e x he hx => by
    obtain ⟨v, hv, hrep⟩ := hR.2.2 p j e x he hx
    refine ⟨v, hv, hrep.mono (fun b hb => ⟨?_, hb.2⟩) (fun _ _ => rfl)⟩
    rcases hb.1 with hb1 | ⟨id, hid, hpos, rfl⟩
    · exact hst1 _ hb1
    · obtain ⟨ver, z, es, l, hh⟩ := hidk id hid
      exact hst2 id hid _ _ _ _ hh hpos)
  have hrun := run_buildSlice' (P := P) w t et len (ps.map fun (i, x) => (i, a.eval x)) real inf zv hut hinf hzv (by rw [hsz]; omega) (by
    rw [hsz]
    simpa using hfill)
  rw [uH_append]
  refine ⟨_, _, m', hrun, e1.trans e2, M2, row_new (z := i.sz) (es := es) (l := l) (h := setH (uH h (ids.map fun i => (i, Blk.gone))) n (.row 0 i.sz es l)) hψ (Nat.le_refl _) (by simp [setH])⟩

theorem qMake_sound (hP : TIok P ti) (hM : Mem c m h w) {n : Nat} (hn : h n = none) {t : Nat} {i : TI} (hi : elemOfS ti t = some i) {k k' : IntKind} {p r : Int} (h0 : 0 < i.sz) (hp0 : 0 ≤ p) (hpr : p ≤ r) (hb : r * i.nb ≤ room) (hr : r ≤ room) :
    ∃ v w' m', (Instr.makeSlice t (.int k p) (.int k' r)).run P w = .ok v w' ∧ Ext m h w m' (uH h [(n, .row 0 i.sz (List.replicate p.toNat i.z) true)]) w' ∧
      Mem c m' (uH h [(n, .row 0 i.sz (List.replicate p.toNat i.z) true)]) w' ∧ VR m' c.B (uH h [(n, .row 0 i.sz (List.replicate p.toNat i.z) true)]) w' v (.row n 0 0 p.toNat) := by
  obtain ⟨et, hut, hT⟩ := elemOfS_some hP hi
  obtain ⟨inf, zv, hinf, hzv, hsz, hnb, hzs, _, hzl, hzr⟩ := zero_cells (m := m) (c := c) (h := h) (w := w) hT
  have hb' : (inf.bytes : Int) * r ≤ 140737488355328 := by rw [hnb, Int.mul_comm]; exact hb
  have hr' : r ≤ 140737488355328 := hr
  have hrun := run_make (P := P) w t et inf zv hut hinf hzv k k' p r hp0 hpr (by omega) (by omega)
  obtain ⟨m', e2, M2, hψ⟩ := hM.newRow hn (madeCells zv.cells (r.toNat * inf.size)) et i.sz r.toNat (List.replicate p.toNat i.z) true (by simp; omega) (by unfold room; simp; omega)
    (fun q e he => by
      rw [List.getElem?_replicate] at he
      split at he <;> simp only [Option.some.injEq, reduceCtorEq] at he
      rw [← he]; exact hzl) (by rw [size_madeCells, hsz]; exact Nat.le_refl _)
    (by rw [hsz]; exact zeros_row zv.cells hzs hzl (hzr _) p.toNat r.toNat (by omega) h0)
  exact ⟨_, _, m', hrun, e2, M2, row_new (z := i.sz) (es := List.replicate p.toNat i.z) (l := true) (h := setH h n (.row 0 i.sz (List.replicate p.toNat i.z) true)) hψ (by omega) (by simp [setH])⟩

theorem qBytes_sound (hM : Mem c m h w) {src dst e : TypeId} {y : ByteArray} (hs : P.underlying src = some .string) (hd : P.underlying dst = some (.slice e)) (he : P.underlying e = some (.int .u8)) (hy : y.size ≤ room) :
    ∃ v w' m', (convert src dst (.string y)).run P w = .ok v w' ∧ Ext m h w m' h w' ∧ Mem c m' h w' ∧ VR m' c.B h w' v (.t (.sl (bytesOfStr y)) true) := by
  have hrun := run_bytes_of_string (P := P) w src dst e y hs hd he
  generalize hC : bytesRow y (grownCap w y.size 0 e) = C at hrun
  generalize hk : grownCap w y.size 0 e = k at hrun
  have hge : y.size ≤ k := by rw [← hk]; exact grownCap_ge w y.size 0 e
  have hbl : Below w.heap.size w (w.drew.alloc (.cells C e (C.size, C.size + 1))) := (below_drew w).alloc (by exact Nat.le_refl _) _
  obtain ⟨e1, M1⟩ := hM.grow hbl
  have hsz : (w.drew.alloc (.cells C e (C.size, C.size + 1))).heap.size = w.heap.size + 1 := by
    show (w.heap.push _).size = _
    simp
  have hnew : (w.drew.alloc (.cells C e (C.size, C.size + 1))).heap[w.heap.size]? = some (.cells C e (C.size, C.size + 1)) := heap_alloc_new w.drew _
  obtain ⟨e2, M2⟩ := M1.addSt (fun b => b = w.heap.size) (fun b hb => by
    subst hb
    refine ⟨by omega, hM.bsize, fun i hi => ?_⟩
    exact Nat.lt_irrefl _ (hM.place_lt hi).1)
  refine ⟨_, _, _, hrun, e1.trans e2, M2, .t _ _ _ (.sl _ _ _ _ 1 (fun i _ => .int .u8 ((y.data.toList.getD i 0).toNat : Int)) (by simp [bytesOfStr]) hge hy (fun e => by cases e) (fun i e' he' => ?_) (fun h0 => ⟨_, rfl, ?_, fun i j hi hj => ?_⟩) (fun i j e' x he' hx => ?_))⟩
  · simp [bytesOfStr] at he'
    obtain ⟨_, _, rfl⟩ := he'
    rfl
  · exact ⟨.inr rfl, fun _ => hM.bsize⟩
  · obtain rfl : j = 0 := by omega
    rw [add_lit, cell_lit hnew, ← hC]
    unfold bytesRow
    have hi' : i < y.data.size := hi
    rw [Array.getElem?_append_left (by simp; omega)]
    rw [show 0 + (i * 1 + 0) = i by omega, Array.getElem?_map, Array.getElem?_eq_getElem hi']
    simp [List.getD, Array.getElem?_eq_getElem hi']
  · simp [bytesOfStr] at he'
    obtain ⟨b, hb, rfl⟩ := he'
    cases j with
    | zero =>
      simp at hx
      subst hx
      have : y.data.toList.getD i 0 = b := by simp [List.getD, hb]
      rw [this]
      exact .i _ _
    | succ j => simp at hx

theorem Rep.move {w w' : World} {B : Nat → Prop} {v : Value} {x : T} (h : Rep w B v x) (hw : ∀ a : Addr, B a.block → w'.cell? a = w.cell? a) : Rep w' B v x := by
  induction h with
  | i k n => exact .i k n
  | b x => exact .b x
  | s x => exact .s x
  | ne a c => exact .ne a c
  | sl A n c es z vals hn hc hm hz0 hz hA hv ih =>
    refine .sl A n c es z vals hn hc hm hz0 hz (fun h0 => ?_) ih
    obtain ⟨ad, e, hb, hcell⟩ := hA h0
    exact ⟨ad, e, hb, fun i j hi hj => (hw _ (by rw [block_add]; exact hb)).trans (hcell i j hi hj)⟩
  | nl => exact .nl
  | agg vs cs hs h ih => exact .agg vs cs hs ih
  | tup vs cs hs h ih => exact .tup vs cs hs ih
  | pt a cs vals hb hc hv ih => exact .pt a cs vals hb (fun j hj => (hw _ (by rw [block_add]; exact hb)).trans (hc j hj)) ih
  | fn f vs cs hs h ih => exact .fn f vs cs hs ih

/-- A row is forgotten. -/
theorem Mem.drop (hM : Mem c m h w) {id ver z : Nat} {es : List (List T)} {l : Bool} (hid : h id = some (.row ver z es l)) :
    Ext m h w m (setH h id .gone) w ∧ Mem c m (setH h id .gone) w ∧ ∀ i, place m (setH h id .gone) i ≠ none → i ≠ id ∧ place m h i = place m (setH h id .gone) i := by
  have he : Ext m h w m (setH h id .gone) w := by
    refine ⟨fun i hi => ?_, fun _ _ => rfl, fun i v' z es l hi hh => ?_, fun i ver z es l hi _ hr => ?_, fun _ h => h, fun b hs => rfl⟩
    · by_cases e : i = id <;> simp [setH, e, hi]
    · by_cases e : i = id
      · subst e; simp [setH] at hh
      · exact ⟨v', z, es, l, by simpa [setH, e] using hh, Nat.le_refl _⟩
    · by_cases e : i = id
      · subst e; simp [rowOf, setH] at hr
      · exact ⟨⟨es, l, by simpa [rowOf, setH, e] using hr⟩, rfl⟩
  have hpl : ∀ i, i ≠ id → place m (setH h id .gone) i = place m h i := fun i hi => by
    unfold place
    simp only [setH, if_neg hi]
  have hpi : place m (setH h id .gone) id = none := by simp [place, setH, placeB]
  refine ⟨he, ⟨hM.below, he.kept hM.kept, fun i b hi => ?_, fun i j g hi hj => ?_, hM.stlt, hM.stin⟩, fun i hi => ?_⟩
  · by_cases e : i = id
    · subst e; simp [setH] at hi; subst hi; trivial
    · have hi' : h i = some b := by simpa [setH, e] using hi
      exact (hM.blk i b hi').keep he rfl rfl fun g hg => ⟨(hM.placed hi' hg).2.2, rfl⟩
  · by_cases e : i = id
    · subst e; rw [hpi] at hi; cases hi
    · by_cases e' : j = id
      · subst e'; rw [hpi] at hj; cases hj
      · rw [hpl i e] at hi; rw [hpl j e'] at hj; exact hM.sep i j g hi hj
  · by_cases e : i = id
    · subst e; exact (hi hpi).elim
    · exact ⟨e, (hpl i e).symm⟩

/-- A block that nobody knows is changed. -/
theorem Mem.touch (hM : Mem c m h w) {w' : World} (b : Nat) (hB : c.B ≤ b) (hs : ¬ m.st b) (hp : ∀ i, place m h i ≠ some b) (ho : w'.os = w.os) (ht : w'.tape = w.tape) (hu : w'.output = w.output) (hz : w'.heap.size = w.heap.size)
    (hh : ∀ k, k ≠ b → w'.heap[k]? = w.heap[k]?) : Ext m h w m h w' ∧ Mem c m h w' := by
  have he : Ext m h w m h w' := ⟨fun _ h => h, fun _ _ => rfl, fun _ v' z es l _ hh => ⟨v', z, es, l, hh, Nat.le_refl _⟩, fun _ _ _ es l _ _ hr => ⟨⟨es, l, hr⟩, rfl⟩, fun _ h => h, fun k hk => hh k fun e => hs (e ▸ hk)⟩
  refine ⟨he, ⟨⟨ho.trans hM.below.os, ht.trans hM.below.tape, hu.trans hM.below.output, by rw [hz]; exact hM.below.size, fun k hk => (hh k (by omega)).trans (hM.below.block k hk)⟩, he.kept hM.kept, fun i b' hi => ?_, hM.sep, fun k hk => by rw [hz]; exact hM.stlt k hk, hM.stin⟩⟩
  refine (hM.blk i b' hi).keep he rfl rfl fun g hg => ⟨(hM.placed hi hg).2.2, hh g fun e => ?_⟩
  subst e
  exact hp i (by unfold place; rw [hi]; exact hg)

theorem freeze_heap {w : World} {b n : Nat} {rcs : Array Value} {t : Nat} {k : Nat} (hb : w.heap[b]? = some (.cells rcs t (0, 0))) :
    (w.freeze ⟨b, n, none⟩ 1).heap[k]? = if k = b then some (.cells rcs t (n, n + 1)) else w.heap[k]? := by
  unfold World.freeze
  rw [if_neg (by decide)]
  have hlt := (Array.getElem?_eq_some_iff.1 hb).1
  by_cases e : k = b
  · subst e
    rw [if_pos rfl]
    simp only [Array.getElem?_modify, if_true, hb, Option.map_some]
    rfl
  · rw [if_neg e]
    simp only [Array.getElem?_modify]
    rw [if_neg (fun h => e h.symm)]

theorem qMark_sound (hM : Mem c m h w) {t e : Nat} (ht : P.underlying t = some (.slice e)) (hu8 : P.underlying e = some (.int .u8)) {id ver off len : Nat} {x : T} {l : Bool} {us : List (Nat × Blk)} (hx : emb h (.row id ver off len) = some (x, l, us)) (h0 : 0 < len)
    {rv : Value} (hv : VR m c.B h w rv (.row id ver off len)) :
    ∃ v w' m', (convert t t rv).run P w = .ok v w' ∧ Ext m h w m' (uH h us) w' ∧ Mem c m' (uH h us) w' ∧ VR m' c.B (uH h us) w' v (.t x l) := by
  simp only [emb] at hx
  split at hx <;> try cases hx
  rename_i z es l' hr
  split at hx <;> simp only [Option.some.injEq, Prod.mk.injEq, reduceCtorEq] at hx
  rename_i hl
  obtain ⟨rfl, rfl, rfl⟩ := hx
  have hrep := row_rep hM hv hr hl
  have hid := rowOf_some hr
  obtain ⟨h6, _, _, h9⟩ := hM.blk _ _ hid
  have hpos : 0 < (m.ψ id).2 := by omega
  obtain ⟨hB, hst, rcs, ty, hheap, _, _⟩ := h9 hpos
  have hplace : place m h id = some (m.ψ id).1 := by simp [place, hid, placeB, hpos]
  cases hv with
  | row _ _ _ _ k A hid' hver hk hrow =>
    obtain ⟨h4, h5⟩ := hrow _ _ _ hr
    have hA := h5 (by omega)
    subst hA
    have hrun : (convert t t (.slice (some ((⟨(m.ψ id).1, 0, none⟩ : Addr).add (off * z))) len k)).run P w = .ok (.slice (some ((⟨(m.ψ id).1, 0, none⟩ : Addr).add (off * z))) len k) (w.freeze ⟨(m.ψ id).1, rcs.size, none⟩ 1) := by
      have hsh : w.shape? (m.ψ id).1 = some (ty, rcs.size) := by unfold World.shape?; rw [hheap]
      simp [convert, run_underlying ht, run_underlying hu8, markStringish, block_add, hsh]
    have hfz := fun k => freeze_heap (n := rcs.size) (k := k) hheap
    have hsz : (w.freeze ⟨(m.ψ id).1, rcs.size, none⟩ 1).heap.size = w.heap.size := by unfold World.freeze; rw [if_neg (by decide)]; simp
    obtain ⟨e1, M1, hpl⟩ := hM.drop hid
    have hno : ∀ i, place m (setH h id .gone) i ≠ some (m.ψ id).1 := fun i hi => by
      obtain ⟨hne, hi2⟩ := hpl i (by rw [hi]; simp)
      exact hne (hM.sep i id _ (hi2.trans hi) hplace)
    obtain ⟨e2, M2⟩ := M1.touch (w' := w.freeze ⟨(m.ψ id).1, rcs.size, none⟩ 1) (m.ψ id).1 hB hst hno (by unfold World.freeze; rw [if_neg (by decide)]) (by unfold World.freeze; rw [if_neg (by decide)]) (by unfold World.freeze; rw [if_neg (by decide)]) hsz
      (fun k hk => by rw [hfz k, if_neg hk])
    obtain ⟨e3, M3⟩ := M2.addSt (fun b => b = (m.ψ id).1) (fun b hb => by
      subst hb
      exact ⟨by rw [hsz]; exact (hM.place_lt hplace).1, hB, hno⟩)
    refine ⟨_, _, _, hrun, (e1.trans e2).trans e3, M3, .t _ _ _ ?_⟩
    refine (hrep.mono (B' := ({ m with st := fun b => m.st b ∨ b = (m.ψ id).1 } : Mp).ok c.B l') (fun b hb => ⟨hb.1.imp (fun q => q) (·.2), hb.2⟩) (fun _ _ => rfl)).move fun a _ => ?_
    simp only [World.cell?]
    rw [hfz a.block]
    by_cases e : a.block = (m.ψ id).1
    · rw [if_pos e, e, hheap]
    · rw [if_neg e]

/-- All operations but calls of functions and those that write. -/
theorem q_sound (hP : TIok P ti) (hS : Sat c m h tm a w) (hs : Sub h1 h) {n : Nat} (hn : h n = none) {o : Oper} {p : Prop} {v : AV} {us : List (Nat × Blk)} (hq : q ti tm h1 n o.op = some (p, v, us)) (hp : p) :
    ∃ rv w' m', (execOp a.eval o).run P w = .ok (.value rv) w' ∧ Ext m h w m' (uH h us) w' ∧ Mem c m' (uH h us) w' ∧ VR m' c.B (uH h us) w' rv v := by
  by_cases ho : still o.op = true
  · obtain ⟨rfl, rv, hr, hv⟩ := q_still hP hS hs ho hq hp
    exact ⟨rv, w, m, hr, Ext.refl _ _ _, hS.mem, hv⟩
  obtain ⟨dst, op, ty, pos, after, guard⟩ := o
  simp only at ho hq ⊢
  cases op <;> simp only [still, not_true, Bool.false_eq_true, not_false_eq_true, q, reduceCtorEq] at ho hq
  case alloc e =>
    split at hq <;> simp only [Option.some.injEq, Prod.mk.injEq, reduceCtorEq] at hq
    rename_i i hi
    obtain ⟨rfl, rfl, rfl⟩ := hq
    obtain ⟨inf, zv, hinf, hzv, hsz, hnb, hzs, hcr, hzl, hzr⟩ := zero_cells (m := m) (c := c) (h := h) (w := w) (hP.ok _ _ hi)
    obtain ⟨m', e2, M2, hφ⟩ := hS.mem.newVar hn zv.cells e (i.z.map zAV) (by simpa using hcr.1) hcr.2
    refine ⟨_, _, m', by simp [execOp, Instr.alloc, zeroValue, typeInfo, hinf, hzv, newVar, newRow]; rfl, e2, M2, ?_⟩
    rw [← hφ]
    exact .ptr n 0 (by simp [uH])
  case box e x =>
    split at hq <;> try cases hq
    rename_i u hu
    split at hq <;> simp only [Option.some.injEq, Prod.mk.injEq, reduceCtorEq] at hq
    rename_i cs hc
    obtain ⟨rfl, rfl, rfl⟩ := hq
    obtain ⟨h1, h2⟩ := cells_vr hc (ev_vr hS hu)
    obtain ⟨m', e2, M2, hφ⟩ := hS.mem.newVar hn (a.eval x).cells e cs h1 h2
    refine ⟨_, _, m', by simp [execOp, Instr.box, newVar, newRow]; rfl, e2, M2, ?_⟩
    rw [← hφ]
    exact .ptr n 0 (by simp [uH])
  case build t ps =>
    split at hq <;> try cases hq
    rename_i i hi
    split at hq <;> simp only [Option.some.injEq, Prod.mk.injEq, reduceCtorEq] at hq
    rename_i cs hf
    obtain ⟨rfl, rfl, rfl⟩ := hq
    obtain ⟨real, hr, hc⟩ := build_sound hP hS hi hf hp
    exact ⟨.agg real, w, m, by simp [execOp, hr], Ext.refl _ _ _, hS.mem, .agg _ _ hc.1 hc.2⟩
  case buildSlice t len ps =>
    split at hq <;> try cases hq
    rename_i i hi
    split at hq <;> simp only [Option.some.injEq, Prod.mk.injEq, reduceCtorEq] at hq
    rename_i es l u hf
    obtain ⟨rfl, rfl, rfl⟩ := hq
    obtain ⟨r, w', m', hr, h2, h3, h4⟩ := qBuildSlice_sound hP hS hs hn hi hf hp.1 hp.2
    exact ⟨r, w', m', by simp only [execOp, Sem.run_bind, hr]; rfl, h2, h3, h4⟩
  case makeSlice t x y =>
    split at hq <;> simp only [Option.some.injEq, Prod.mk.injEq, reduceCtorEq] at hq
    rename_i i k p' l k' r' l' hi hx hy
    obtain ⟨rfl, rfl, rfl⟩ := hq
    obtain ⟨p1, p2, p3, p4, p5⟩ := hp
    have hvx := ev_vr hS hx
    have hvy := ev_vr hS hy
    generalize hex : a.eval x = rx at hvx
    generalize hey : a.eval y = ry at hvy
    cases hvx with
    | t _ _ _ hr =>
      cases hr
      cases hvy with
      | t _ _ _ hr =>
        cases hr
        obtain ⟨r, w', m', hr, h2, h3, h4⟩ := qMake_sound (P := P) (k := k) (k' := k') hP hS.mem hn hi p1 p2 p3 p4 p5
        exact ⟨r, w', m', by simp only [execOp, hex, hey, Sem.run_bind, hr]; rfl, h2, h3, h4⟩
  case convert src dst x =>
    split at hq <;> try cases hq
    · rename_i is k d1 d2 d3 k' mm l hsrc hd hx
      have hvx := ev_vr hS hx
      generalize hex : a.eval x = rx at hvx
      obtain ⟨ds, hus, _⟩ := (hP.ok _ _ hsrc).und
      obtain ⟨dd, hud, hdo⟩ := (hP.ok _ _ hd).und
      cases dd <;> first | exact (Bool.false_ne_true hdo).elim | skip
      simp only [dOK, beq_iff_eq] at hdo
      subst hdo
      cases hvx with
      | t _ _ _ hr =>
        cases hr
        exact ⟨_, w, m, by simp [execOp, convert, run_underlying hus, run_underlying hud, hex, Conv.intToInt], Ext.refl _ _ _, hS.mem, .t _ _ _ (.i _ _)⟩
    · rename_i s1 s2 s3 e d1 d2 d3 y l hsrc hd hx
      split at hq <;> simp only [Option.some.injEq, Prod.mk.injEq, reduceCtorEq] at hq
      rename_i e1 e2 e3 he
      obtain ⟨rfl, rfl, rfl⟩ := hq
      have hvx := ev_vr hS hx
      generalize hex : a.eval x = rx at hvx
      obtain ⟨ds, hus, hso⟩ := (hP.ok _ _ hsrc).und
      obtain ⟨dd, hud, hdo⟩ := (hP.ok _ _ hd).und
      obtain ⟨de, hue, heo⟩ := (hP.ok _ _ he).und
      cases dd <;> first | exact (Bool.false_ne_true hdo).elim | skip
      simp only [dOK, beq_iff_eq] at hdo
      subst hdo
      cases ds <;> first | exact (Bool.false_ne_true hso).elim | skip
      cases de <;> first | exact (Bool.false_ne_true heo).elim | skip
      simp only [dOK, beq_iff_eq] at heo
      subst heo
      cases hvx with
      | t _ _ _ hr =>
        cases hr
        obtain ⟨r, w', m', hr, h2, h3, h4⟩ := qBytes_sound (P := P) hS.mem hus hud hue hp
        exact ⟨r, w', m', by simp only [execOp, hex, Sem.run_bind, hr]; rfl, h2, h3, h4⟩
    · rename_i e0 s1 s2 s3 e d1 d2 d3 id ver off len hsrc hd hx
      split at hq <;> simp only [Option.some.injEq, Prod.mk.injEq, reduceCtorEq] at hq
      rename_i e1 e2 e3 y l us he hem
      obtain ⟨rfl, rfl, rfl⟩ := hq
      obtain ⟨rfl, hlen⟩ := hp
      have hvx := ev_vr hS hx
      obtain ⟨dd, hud, hdo⟩ := (hP.ok _ _ hd).und
      obtain ⟨de, hue, heo⟩ := (hP.ok _ _ he).und
      cases dd <;> first | exact (Bool.false_ne_true hdo).elim | skip
      simp only [dOK, beq_iff_eq] at hdo
      subst hdo
      cases de <;> first | exact (Bool.false_ne_true heo).elim | skip
      simp only [dOK, beq_iff_eq] at heo
      subst heo
      obtain ⟨r, w', m', hr, h2, h3, h4⟩ := qMark_sound (P := P) hS.mem hud hue (emb_sub hs hem) hlen hvx
      exact ⟨r, w', m', by simp only [execOp, Sem.run_bind, hr]; rfl, h2, h3, h4⟩
  case call cl =>
    obtain ⟨callee, args, tys⟩ := cl
    cases callee <;> simp only [reduceCtorEq] at hq
    rename_i b
    split at hq <;> try cases hq
    rename_i vs hvs
    cases b <;> simp only [still, not_true, qBuiltin, reduceCtorEq] at hq ho
    split at hq <;> try cases hq
    rename_i t t' v1 v2 hty
    obtain ⟨x, y, hx, hv, hv2⟩ := evs_two hS hvs
    have e1 : args = #[x, y] := by apply Array.ext'; simpa using hx
    have e2 : tys = #[t, t'] := by apply Array.ext'; simpa using hty
    subst e1; subst e2
    split at hq
    · rename_i htt
      subst htt
      obtain ⟨r, w', m', hr, h2, h3, h4⟩ := qAppend_sound (P := P) hP hS.mem hs hn hv hv2 hq hp ty
      exact ⟨r, w', m', by simp [execOp, resolve, invoke, builtin, hr], h2, h3, h4⟩
    · obtain ⟨r, w', m', hr, h2, h3, h4⟩ := qGrow_sound (P := P) hP hS.mem hn hv hv2 hq hp ty
      exact ⟨r, w', m', by simp [execOp, resolve, invoke, builtin, hr], h2, h3, h4⟩
end
end Go.Proofs.Ytadnjellfiafaaa.Pm
