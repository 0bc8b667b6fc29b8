/- The abstract machine, sixteenth part: operations that make blocks, and all of them together. No law of Go's is stated here. -/
import Derived.Test.YtadnjellfiafaaaPmO
import Derived.Great.BuildSlice
set_option linter.all false
namespace Go.Proofs.Ytadnjellfiafaaa.Pm
open Go Go.RowKit

section
variable {P : Program} {w w' : World} {c : Ct} {m m' : Mp} {h h' h1 : H} {ti : Nat → Option TI} {tm : Tm} {a : Act}

theorem run_buildSlice' (w : World) (t e : TypeId) (len : Nat) (parts : Array (Nat × Value)) (cells : Array Value) (ie : TypeInfo) (z : Value)
    (hu : P.underlying t = some (.slice e)) (hie : P.info? e = some ie) (hz : ie.zero = some z) (hsmall : ¬ len * ie.size > 2 ^ 24)
    (h : Instr.fill (fun i => some (i * ie.size, ie.size)) (madeCells z.cells (len * ie.size)) parts.toList = some cells) :
    (Instr.buildSlice t len parts).run P w = .ok (.slice (some ⟨w.heap.size, 0, none⟩) len len) (w.alloc (.cells cells e)) := by
  by_cases h0 : len * ie.size = 0
  · have e0 : madeCells z.cells (len * ie.size) = #[] := by apply Array.eq_empty_of_size_eq_zero; rw [size_madeCells, h0]
    have hr0 : ∀ f : Nat → Value, (Array.range 0).map f = #[] := fun f => by apply Array.eq_empty_of_size_eq_zero; simp
    rw [e0] at h
    simp [Instr.buildSlice, run_underlying hu, sizeOf, typeInfo, hie, h0, newRow]
    rw [hr0, h]
    simp
  · exact run_buildSlice w t e len parts cells ie z hu hie hz hsmall h0 h

theorem uH_ne (h : H) {n : Nat} : ∀ (us : List (Nat × Blk)), (∀ u ∈ us, u.1 ≠ n) → uH h us n = h n
  | [], _ => rfl
  | u :: us, hu => by
    rw [uH_cons, uH_ne (setH h u.1 u.2) us (fun v hv => hu v (List.mem_cons_of_mem _ hv))]
    have := hu u (List.mem_cons_self ..)
    simp [setH, Ne.symm this]

theorem qBuildSlice_sound (hP : TIok P ti) (hS : Sat c m h tm a w) (hs : Sub h1 h) {n : Nat} (hn : h n = none) {t len : Nat} {ps : Array (Nat × Operand)} {i : TI} (hi : elemOfS ti t = some i)
    {es : List (List T)} {l : Bool} {u : List (Nat × Blk)} (hf : fillS h1 tm i.sz ps.toList (List.replicate len i.z) = some (es, l, u)) (hsm : len * i.sz ≤ 16777216) (h0 : 0 < i.sz) :
    ∃ r w' m', (Instr.buildSlice t len (ps.map fun (i, x) => (i, a.eval x))).run P w = .ok r w' ∧ Ext m h w m' (uH h (u ++ [(n, .row 0 i.sz es l)])) w' ∧
      Mem c m' (uH h (u ++ [(n, .row 0 i.sz es l)])) w' ∧ VR m' c.w0.heap.size (uH h (u ++ [(n, .row 0 i.sz es l)])) w' r (.row n 0 0 len) := by
  obtain ⟨et, hut, hT⟩ := elemOfS_some hP hi
  obtain ⟨inf, zv, hinf, hzv, hsz, hnb, hzs, _, hzl, hzr⟩ := zero_cells (m := m) (c := c) (h := h) (w := w) hT
  have hrow0 : RowR w (gok m c.w0.heap.size [] true) i.sz (madeCells zv.cells (len * i.sz)) (List.replicate len i.z) := by
    refine ⟨by simp [size_madeCells], fun k e he => ?_, zeros_row zv.cells hzs hzl (hzr _) len len (Nat.le_refl _) h0⟩
    rw [List.getElem?_replicate] at he
    split at he <;> simp only [Option.some.injEq, reduceCtorEq] at he
    rw [← he]; exact hzl
  obtain ⟨ids, hids, hidk, hlen, real, hfill, hR⟩ := fillS_sound hS hs i.sz ps.toList _ _ _ [] true hrow0 (fillS_sub hs hf)
  simp only [List.length_replicate, List.nil_append, Bool.true_and] at hids hlen hR
  subst hids
  obtain ⟨st', e1, M1, hst1, hst2⟩ := goesAll ids hS.mem (fun id hid => .inl (hidk id hid))
  have hnn : uH h (ids.map fun i => (i, Blk.gone)) n = none := by
    rw [uH_ne]; exact hn
    intro u hu e
    obtain ⟨k, hk, rfl⟩ := List.mem_map.1 hu
    obtain ⟨ver, z, es, l, hh⟩ := hidk k hk
    simp only at e
    rw [e, hn] at hh
    cases hh
  have hlr : len ≤ room := by
    have : len * 1 ≤ len * i.sz := Nat.mul_le_mul_left _ h0
    unfold room; omega
  obtain ⟨m', e2, M2, hψ⟩ := M1.newRow hnn real et i.sz len es l (by omega) (by omega) hR.2.1 (by rw [hR.1, hlen]; exact Nat.le_refl _) (fun p j e x he hx => by
    obtain ⟨v, hv, hrep⟩ := hR.2.2 p j e x he hx
    refine ⟨v, hv, hrep.mono (fun b hb => ⟨?_, hb.2⟩) (fun _ _ => rfl)⟩
    rcases hb.1 with hb1 | ⟨id, hid, hpos, rfl⟩
    · exact hst1 _ hb1
    · obtain ⟨ver, z, es, l, hh⟩ := hidk id hid
      exact hst2 id hid _ _ _ _ hh hpos)
  have hrun := run_buildSlice' (P := P) w t et len (ps.map fun (i, x) => (i, a.eval x)) real inf zv hut hinf hzv (by rw [hsz]; omega) (by
    rw [hsz]
    simpa using hfill)
  rw [uH_append]
  refine ⟨_, _, m', hrun, e1.trans e2, M2, row_new (z := i.sz) (es := es) (l := l) (h := setH (uH h (ids.map fun i => (i, Blk.gone))) n (.row 0 i.sz es l)) hψ (Nat.le_refl _) (by simp [setH])⟩

theorem qMake_sound (hP : TIok P ti) (hM : Mem c m h w) {n : Nat} (hn : h n = none) {t : Nat} {i : TI} (hi : elemOfS ti t = some i) {k k' : IntKind} {p r : Int} (h0 : 0 < i.sz) (hp0 : 0 ≤ p) (hpr : p ≤ r) (hb : r * i.nb ≤ room) (hr : r ≤ room) :
    ∃ v w' m', (Instr.makeSlice t (.int k p) (.int k' r)).run P w = .ok v w' ∧ Ext m h w m' (uH h [(n, .row 0 i.sz (List.replicate p.toNat i.z) true)]) w' ∧
      Mem c m' (uH h [(n, .row 0 i.sz (List.replicate p.toNat i.z) true)]) w' ∧ VR m' c.w0.heap.size (uH h [(n, .row 0 i.sz (List.replicate p.toNat i.z) true)]) w' v (.row n 0 0 p.toNat) := by
  obtain ⟨et, hut, hT⟩ := elemOfS_some hP hi
  obtain ⟨inf, zv, hinf, hzv, hsz, hnb, hzs, _, hzl, hzr⟩ := zero_cells (m := m) (c := c) (h := h) (w := w) hT
  have hb' : (inf.bytes : Int) * r ≤ 140737488355328 := by rw [hnb, Int.mul_comm]; exact hb
  have hr' : r ≤ 140737488355328 := hr
  have hrun := run_make (P := P) w t et inf zv hut hinf hzv k k' p r hp0 hpr (by omega) (by omega)
  obtain ⟨m', e2, M2, hψ⟩ := hM.newRow hn (madeCells zv.cells (r.toNat * inf.size)) et i.sz r.toNat (List.replicate p.toNat i.z) true (by simp; omega) (by unfold room; simp; omega)
    (fun q e he => by
      rw [List.getElem?_replicate] at he
      split at he <;> simp only [Option.some.injEq, reduceCtorEq] at he
      rw [← he]; exact hzl) (by rw [size_madeCells, hsz]; exact Nat.le_refl _)
    (by rw [hsz]; exact zeros_row zv.cells hzs hzl (hzr _) p.toNat r.toNat (by omega) h0)
  exact ⟨_, _, m', hrun, e2, M2, row_new (z := i.sz) (es := List.replicate p.toNat i.z) (l := true) (h := setH h n (.row 0 i.sz (List.replicate p.toNat i.z) true)) hψ (by omega) (by simp [setH])⟩

theorem qBytes_sound (hM : Mem c m h w) {src dst e : TypeId} {y : ByteArray} (hs : P.underlying src = some .string) (hd : P.underlying dst = some (.slice e)) (he : P.underlying e = some (.int .u8)) (hy : y.size ≤ room) :
    ∃ v w' m', (convert src dst (.string y)).run P w = .ok v w' ∧ Ext m h w m' h w' ∧ Mem c m' h w' ∧ VR m' c.w0.heap.size h w' v (.t (.sl (bytesOfStr y)) true) := by
  have hrun := run_bytes_of_string (P := P) w src dst e y hs hd he
  generalize hC : bytesRow y (grownCap w y.size 0 e) = C at hrun
  generalize hk : grownCap w y.size 0 e = k at hrun
  have hge : y.size ≤ k := by rw [← hk]; exact grownCap_ge w y.size 0 e
  have hbl : Below w.heap.size w (w.drew.alloc (.cells C e (C.size, C.size + 1))) := (below_drew w).alloc (by exact Nat.le_refl _) _
  obtain ⟨e1, M1⟩ := hM.grow hbl
  have hsz : (w.drew.alloc (.cells C e (C.size, C.size + 1))).heap.size = w.heap.size + 1 := by
    show (w.heap.push _).size = _
    simp
  have hnew : (w.drew.alloc (.cells C e (C.size, C.size + 1))).heap[w.heap.size]? = some (.cells C e (C.size, C.size + 1)) := heap_alloc_new w.drew _
  obtain ⟨e2, M2⟩ := M1.addSt (fun b => b = w.heap.size) (fun b hb => by
    subst hb
    refine ⟨by omega, hM.below.size, fun i hi => ?_⟩
    exact Nat.lt_irrefl _ (hM.place_lt hi).1)
  refine ⟨_, _, _, hrun, e1.trans e2, M2, .t _ _ _ (.sl _ _ _ _ 1 (fun i _ => .int .u8 ((y.data.toList.getD i 0).toNat : Int)) (by simp [bytesOfStr]) hge hy (fun i e' he' => ?_) (fun h0 => ⟨_, rfl, ?_, fun i j hi hj => ?_⟩) (fun i j e' x he' hx => ?_))⟩
  · simp [bytesOfStr] at he'
    obtain ⟨_, _, rfl⟩ := he'
    rfl
  · exact ⟨.inr rfl, fun _ => hM.below.size⟩
  · obtain rfl : j = 0 := by omega
    rw [add_lit, cell_lit hnew, ← hC]
    unfold bytesRow
    have hi' : i < y.data.size := hi
    rw [Array.getElem?_append_left (by simp; omega)]
    rw [show 0 + (i * 1 + 0) = i by omega, Array.getElem?_map, Array.getElem?_eq_getElem hi']
    simp [List.getD, Array.getElem?_eq_getElem hi']
  · simp [bytesOfStr] at he'
    obtain ⟨b, hb, rfl⟩ := he'
    cases j with
    | zero =>
      simp at hx
      subst hx
      have : y.data.toList.getD i 0 = b := by simp [List.getD, hb]
      rw [this]
      exact .i _ _
    | succ j => simp at hx

/-- All operations but calls of functions and those that write. -/
theorem q_sound (hP : TIok P ti) (hS : Sat c m h tm a w) (hs : Sub h1 h) {n : Nat} (hn : h n = none) {o : Oper} {p : Prop} {v : AV} {us : List (Nat × Blk)} (hq : q ti tm h1 n o.op = some (p, v, us)) (hp : p) :
    ∃ rv w' m', (execOp a.eval o).run P w = .ok (.value rv) w' ∧ Ext m h w m' (uH h us) w' ∧ Mem c m' (uH h us) w' ∧ VR m' c.w0.heap.size (uH h us) w' rv v := by
  by_cases ho : still o.op = true
  · obtain ⟨rfl, rv, hr, hv⟩ := q_still hP hS hs ho hq hp
    exact ⟨rv, w, m, hr, Ext.refl _ _ _, hS.mem, hv⟩
  obtain ⟨dst, op, ty, pos, after, guard⟩ := o
  simp only at ho hq ⊢
  cases op <;> simp only [still, not_true, Bool.false_eq_true, not_false_eq_true, q, reduceCtorEq] at ho hq
  case alloc e =>
    split at hq <;> simp only [Option.some.injEq, Prod.mk.injEq, reduceCtorEq] at hq
    rename_i i hi
    obtain ⟨rfl, rfl, rfl⟩ := hq
    obtain ⟨inf, zv, hinf, hzv, hsz, hnb, hzs, hcr, hzl, hzr⟩ := zero_cells (m := m) (c := c) (h := h) (w := w) (hP.ok _ _ hi)
    obtain ⟨m', e2, M2, hφ⟩ := hS.mem.newVar hn zv.cells e (i.z.map zAV) (by simpa using hcr.1) hcr.2
    refine ⟨_, _, m', by simp [execOp, Instr.alloc, zeroValue, typeInfo, hinf, hzv, newVar, newRow]; rfl, e2, M2, ?_⟩
    rw [← hφ]
    exact .ptr n 0 (by simp [uH])
  case box e x =>
    split at hq <;> try cases hq
    rename_i u hu
    split at hq <;> simp only [Option.some.injEq, Prod.mk.injEq, reduceCtorEq] at hq
    rename_i cs hc
    obtain ⟨rfl, rfl, rfl⟩ := hq
    obtain ⟨h1, h2⟩ := cells_vr hc (ev_vr hS hu)
    obtain ⟨m', e2, M2, hφ⟩ := hS.mem.newVar hn (a.eval x).cells e cs h1 h2
    refine ⟨_, _, m', by simp [execOp, Instr.box, newVar, newRow]; rfl, e2, M2, ?_⟩
    rw [← hφ]
    exact .ptr n 0 (by simp [uH])
  case build t ps =>
    split at hq <;> try cases hq
    rename_i i hi
    split at hq <;> simp only [Option.some.injEq, Prod.mk.injEq, reduceCtorEq] at hq
    rename_i cs hf
    obtain ⟨rfl, rfl, rfl⟩ := hq
    obtain ⟨real, hr, hc⟩ := build_sound hP hS hi hf hp
    exact ⟨.agg real, w, m, by simp [execOp, hr], Ext.refl _ _ _, hS.mem, .agg _ _ hc.1 hc.2⟩
  case buildSlice t len ps =>
    split at hq <;> try cases hq
    rename_i i hi
    split at hq <;> simp only [Option.some.injEq, Prod.mk.injEq, reduceCtorEq] at hq
    rename_i es l u hf
    obtain ⟨rfl, rfl, rfl⟩ := hq
    obtain ⟨r, w', m', hr, h2, h3, h4⟩ := qBuildSlice_sound hP hS hs hn hi hf hp.1 hp.2
    exact ⟨r, w', m', by simp only [execOp, Sem.run_bind, hr]; rfl, h2, h3, h4⟩
  case makeSlice t x y =>
    split at hq <;> simp only [Option.some.injEq, Prod.mk.injEq, reduceCtorEq] at hq
    rename_i i k p' l k' r' l' hi hx hy
    obtain ⟨rfl, rfl, rfl⟩ := hq
    obtain ⟨p1, p2, p3, p4, p5⟩ := hp
    have hvx := ev_vr hS hx
    have hvy := ev_vr hS hy
    generalize hex : a.eval x = rx at hvx
    generalize hey : a.eval y = ry at hvy
    cases hvx with
    | t _ _ _ hr =>
      cases hr
      cases hvy with
      | t _ _ _ hr =>
        cases hr
        obtain ⟨r, w', m', hr, h2, h3, h4⟩ := qMake_sound (P := P) (k := k) (k' := k') hP hS.mem hn hi p1 p2 p3 p4 p5
        exact ⟨r, w', m', by simp only [execOp, hex, hey, Sem.run_bind, hr]; rfl, h2, h3, h4⟩
  case convert src dst x =>
    split at hq <;> try cases hq
    · rename_i is k d1 d2 d3 k' mm l hsrc hd hx
      have hvx := ev_vr hS hx
      generalize hex : a.eval x = rx at hvx
      obtain ⟨ds, hus, _⟩ := (hP.ok _ _ hsrc).und
      obtain ⟨dd, hud, hdo⟩ := (hP.ok _ _ hd).und
      cases dd <;> first | exact (Bool.false_ne_true hdo).elim | skip
      simp only [dOK, beq_iff_eq] at hdo
      subst hdo
      cases hvx with
      | t _ _ _ hr =>
        cases hr
        exact ⟨_, w, m, by simp [execOp, convert, run_underlying hus, run_underlying hud, hex, Conv.intToInt], Ext.refl _ _ _, hS.mem, .t _ _ _ (.i _ _)⟩
    · rename_i s1 s2 s3 e d1 d2 d3 y l hsrc hd hx
      split at hq <;> simp only [Option.some.injEq, Prod.mk.injEq, reduceCtorEq] at hq
      rename_i e1 e2 e3 he
      obtain ⟨rfl, rfl, rfl⟩ := hq
      have hvx := ev_vr hS hx
      generalize hex : a.eval x = rx at hvx
      obtain ⟨ds, hus, hso⟩ := (hP.ok _ _ hsrc).und
      obtain ⟨dd, hud, hdo⟩ := (hP.ok _ _ hd).und
      obtain ⟨de, hue, heo⟩ := (hP.ok _ _ he).und
      cases dd <;> first | exact (Bool.false_ne_true hdo).elim | skip
      simp only [dOK, beq_iff_eq] at hdo
      subst hdo
      cases ds <;> first | exact (Bool.false_ne_true hso).elim | skip
      cases de <;> first | exact (Bool.false_ne_true heo).elim | skip
      simp only [dOK, beq_iff_eq] at heo
      subst heo
      cases hvx with
      | t _ _ _ hr =>
        cases hr
        obtain ⟨r, w', m', hr, h2, h3, h4⟩ := qBytes_sound (P := P) hS.mem hus hud hue hp
        exact ⟨r, w', m', by simp only [execOp, hex, Sem.run_bind, hr]; rfl, h2, h3, h4⟩
  case call cl =>
    obtain ⟨callee, args, tys⟩ := cl
    cases callee <;> simp only [reduceCtorEq] at hq
    rename_i b
    split at hq <;> try cases hq
    rename_i vs hvs
    cases b <;> simp only [still, not_true, qBuiltin, reduceCtorEq] at hq ho
    split at hq <;> try cases hq
    rename_i t t' v1 v2 hty
    split at hq <;> try cases hq
    rename_i htt
    subst htt
    obtain ⟨x, y, hx, hv, hv2⟩ := evs_two hS hvs
    have e1 : args = #[x, y] := by apply Array.ext'; simpa using hx
    have e2 : tys = #[t, t] := by apply Array.ext'; simpa using hty
    subst e1; subst e2
    obtain ⟨r, w', m', hr, h2, h3, h4⟩ := qAppend_sound (P := P) hP hS.mem hs hn hv hv2 hq hp ty
    exact ⟨r, w', m', by simp [execOp, resolve, invoke, builtin, hr], h2, h3, h4⟩
end
end Go.Proofs.Ytadnjellfiafaaa.Pm
