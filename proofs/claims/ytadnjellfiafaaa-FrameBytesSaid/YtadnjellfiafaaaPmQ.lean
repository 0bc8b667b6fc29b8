/- The abstract machine, seventeenth part: operations that write. No law of Go's is stated here. -/
import Derived.Test.YtadnjellfiafaaaPmP
set_option linter.all false
namespace Go.Proofs.Ytadnjellfiafaaa.Pm
open Go Go.RowKit

section
variable {P : Program} {w w' : World} {c : Ct} {m m' : Mp} {h h' h1 : H} {ti : Nat → Option TI} {tm : Tm} {a : Act}

theorem splice_get {α : Type} (l new : List α) (o : Nat) (hl : o + new.length ≤ l.length) :
    (l.take o ++ new ++ l.drop (o + new.length)).length = l.length ∧
    ∀ j, (l.take o ++ new ++ l.drop (o + new.length))[j]? = if o ≤ j ∧ j < o + new.length then new[j - o]? else l[j]? := by
  refine ⟨by simp; omega, fun j => ?_⟩
  by_cases h1 : j < o
  · rw [if_neg (by omega), List.append_assoc, List.getElem?_append_left (by simp; omega), List.getElem?_take_of_lt h1]
  · by_cases h2 : j < o + new.length
    · rw [if_pos (by omega), List.getElem?_append_left (by simp; omega), List.getElem?_append_right (by simp; omega)]
      congr 1
      simp
      omega
    · rw [if_neg (by omega), List.getElem?_append_right (by simp; omega), List.getElem?_drop]
      congr 1
      simp
      omega

/-- A block is written in its place. -/
theorem Mem.rewrite (hM : Mem c m h w) {id g : Nat} {b b' : Blk} (hid : h id = some b) (hp : placeB m id b = some g) (hp' : placeB m id b' = some g)
    (hk : ∀ v' z es l, b' = .row v' z es l → ∃ es0 l0, b = .row v' z es0 l0) {w' : World} (hg : w.grownBy w' (some g))
    (hb : Ext m h w m (setH h id b') w' → BlkOK m c.B (setH h id b') w' id b') : Ext m h w m (setH h id b') w' ∧ Mem c m (setH h id b') w' := by
  have hown : place m h id = some g := by simp [place, hid, hp]
  have hsame : ∀ b, b < w.heap.size → place m h id ≠ some b → w'.heap[b]? = w.heap[b]? := fun b hb hne => hg.block b hb (fun e => hne (by rw [hown, e]))
  have he : Ext m h w m (setH h id b') w' := by
    refine ⟨fun i hi => ?_, fun _ _ => rfl, fun i v' z0 es0 l0 hi hh => ?_, fun i v z0 es0 l0 hi hv hrr => ⟨?_, rfl⟩, fun _ h => h, fun b hs => ?_⟩
    · by_cases e : i = id <;> simp [setH, e, hi]
    · by_cases e : i = id
      · subst e
        simp [setH] at hh
        obtain ⟨es1, l1, rfl⟩ := hk _ _ _ _ hh
        exact ⟨v', z0, es1, l1, hid, Nat.le_refl _⟩
      · exact ⟨v', z0, es0, l0, by simpa [setH, e] using hh, Nat.le_refl _⟩
    · by_cases e : i = id
      · subst e
        have hh := rowOf_some hrr
        simp [setH] at hh
        obtain ⟨es1, l1, rfl⟩ := hk _ _ _ _ hh
        exact ⟨es1, l1, by simp [rowOf, hid]⟩
      · exact ⟨es0, l0, by simpa [rowOf, setH, e] using hrr⟩
    · exact hsame b (hM.stlt b hs) (fun e => (hM.place_lt e).2.2 hs)
  have hpl : ∀ i, place m (setH h id b') i = place m h i := fun i => by
    by_cases e : i = id
    · subst e; rw [hown]; simp [place, setH, hp']
    · simp [place, setH, e]
  refine ⟨he, ⟨?_, he.kept hM.kept, fun i b1 hi => ?_, fun i j g hi hj => hM.sep i j g (by rwa [hpl] at hi) (by rwa [hpl] at hj), fun b hs => Nat.lt_of_lt_of_le (hM.stlt b hs) hg.size, hM.stin⟩⟩
  · refine hM.below.trans ⟨hg.os, hg.tape, hg.output, hg.size, fun b hb => hsame b (Nat.lt_of_lt_of_le hb hM.bsize) (fun e => ?_)⟩
    exact Nat.lt_irrefl _ (Nat.lt_of_lt_of_le hb (hM.place_lt e).2.1)
  · by_cases e : i = id
    · subst e
      simp [setH] at hi
      subst hi
      exact hb he
    · have hi' : h i = some b1 := by simpa [setH, e] using hi
      refine (hM.blk i b1 hi').keep he rfl rfl fun g' hgp => ?_
      have hpg : place m h i = some g' := by unfold place; rw [hi']; exact hgp
      obtain ⟨h2, h3, h4⟩ := hM.place_lt hpg
      exact ⟨h4, hsame g' h2 (fun e' => e (hM.sep i id g' hpg e'))⟩

theorem vr_one {B : Nat} {v : Value} {x : AV} (hr : VR m B h w v x) (h1 : x.one) : v.oneCell' = true := by
  cases hr <;> first | rfl | exact h1.elim | skip
  rename_i hr
  exact one_of_rep hr h1

theorem vr_rep {B : Nat} {v : Value} {x : AV} {q : T × Bool} (hq : x.plain = some q) (hr : VR m B h w v x) : Rep w (m.ok B q.2) v q.1 := by
  cases hr <;> simp only [AV.plain, Option.some.injEq, reduceCtorEq] at hq <;> subst hq
  · assumption
  · exact Rep.nilslice _
  · exact Rep.nilslice _

theorem grown_setRow (w : World) (g : Nat) (cs : Array Value) : w.grownBy (w.setRow g cs) (some g) :=
  ⟨rfl, rfl, rfl, by simp, fun b _ hne => setRow_other w g b cs (fun e => hne (by rw [e]))⟩

theorem run_storeAt {t : Nat} {i : TI} (hT : TIr P t i) (g o : Nat) (v : Value) (cur : Array Value) (te : TypeId) (hg : w.heap[g]? = some (.cells cur te (0, 0))) (hz : v.cells.size = i.sz) (hfit : o + v.cells.size ≤ cur.size)
    (h1 : ∀ u ∈ v.cells.toList, u.oneCell' = true) :
    (Instr.storeAt t (.pointer (some ⟨g, o, none⟩)) v).run P w = .ok () (w.setRow g (cur.toList.take o ++ v.cells.toList ++ cur.toList.drop (o + v.cells.toList.length)).toArray) := by
  have hst := run_storeCells_at P g o te v.cells.toList 0 cur w hg (by simpa using hfit) h1
  simp only [Nat.add_zero] at hst
  simp [Instr.storeAt, Instr.sureAddr, storeVar, hT.run_size, hz, hst]

theorem cells_one {B : Nat} {cs : List AV} {vs : Array Value} (hl : vs.size = cs.length) (hv : ∀ (j : Nat) (u : Value) (x : AV), vs[j]? = some u → cs[j]? = some x → VR m B h w u x) (h1 : ∀ v ∈ cs, v.one) : ∀ u ∈ vs.toList, u.oneCell' = true := fun u hu => by
  obtain ⟨j, hj⟩ := List.getElem?_of_mem hu
  have hlt := (List.getElem?_eq_some_iff.1 hj).1
  obtain ⟨x, hx⟩ := list_get (l := cs) (j := j) (by simp at hlt; omega)
  exact vr_one (hv j u x (by simpa using hj) hx) (h1 x (List.mem_of_getElem? hx))

theorem lk_lt {hp : List Blk} {id : Nat} {b : Blk} (h : lk hp id = some b) : id < hp.length := (List.getElem?_eq_some_iff.1 h).1
theorem lk_set {hp : List Blk} {id : Nat} {b0 : Blk} (h : lk hp id = some b0) (b : Blk) : lk (hp.set id b) = setH (lk hp) id b := by
  funext i
  have hlt := lk_lt h
  by_cases e : i = id
  · subst e; simp [lk, setH, hlt]
  · simp [lk, setH, e, Ne.symm e]

/-- A variable's cells are written. -/
theorem var_written (hM : Mem c m h w) {id off : Nat} {old cs : List AV} (hid : h id = some (.var old)) {vs : Array Value} (hl : vs.size = cs.length) (hv : ∀ (j : Nat) (u : Value) (x : AV), vs[j]? = some u → cs[j]? = some x → VR m c.B h w u x)
    (hfit : off + cs.length ≤ old.length) {cur : Array Value} {te : TypeId} (hg : w.heap[m.φ id]? = some (.cells cur te (0, 0))) :
    Ext m h w m (setH h id (.var (setAt old off cs))) (w.setRow (m.φ id) (cur.toList.take off ++ vs.toList ++ cur.toList.drop (off + vs.toList.length)).toArray) ∧
    Mem c m (setH h id (.var (setAt old off cs))) (w.setRow (m.φ id) (cur.toList.take off ++ vs.toList ++ cur.toList.drop (off + vs.toList.length)).toArray) := by
  obtain ⟨b1, b2, rcs, tt, b3, b4, b5⟩ := hM.blk _ _ hid
  rw [hg] at b3
  simp only [Option.some.injEq, Obj.cells.injEq] at b3
  obtain ⟨rfl, rfl, _⟩ := b3
  refine hM.rewrite hid rfl rfl (fun _ _ _ _ e => by cases e) (grown_setRow w _ _) fun he => ?_
  obtain ⟨s1, s2⟩ := splice_get cur.toList vs.toList off (by simp; omega)
  obtain ⟨t1, t2⟩ := setAt_get old off cs hfit
  refine ⟨b1, b2, _, _, setRow_heap w _ _ _ _ _ hg, by simp only [List.size_toArray]; rw [s1, t1]; simpa using b4, fun j u x hu hx => ?_⟩
  rw [t2 j] at hx
  simp only [List.getElem?_toArray] at hu
  rw [s2 j] at hu
  by_cases hj : off ≤ j ∧ j < off + cs.length
  · rw [if_pos hj] at hx
    rw [if_pos (by simp; omega)] at hu
    exact (hv _ u x (by simpa using hu) hx).mono he
  · rw [if_neg hj] at hx
    rw [if_neg (by simp; omega)] at hu
    exact (b5 j u x (by simpa using hu) hx).mono he

theorem qStore_sound (hP : TIok P ti) (hM : Mem c m h w) {t : Nat} {p u : AV} {rp ru : Value} (hvp : VR m c.B h w rp p) (hvu : VR m c.B h w ru u)
    {pr : Prop} {i : Nat} {b : Blk} (hq : qStore ti h t p u = some (pr, i, b)) (hp : pr) :
    (h i).isSome = true ∧ ∃ w', (Instr.storeAt t rp ru).run P w = .ok () w' ∧ Ext m h w m (setH h i b) w' ∧ Mem c m (setH h i b) w' := by
  unfold qStore at hq
  split at hq <;> try cases hq
  rename_i i cs hti hcs
  have hT := hP.ok _ _ hti
  obtain ⟨hcl, hcv⟩ := cells_vr hcs hvu
  split at hq <;> try cases hq
  · rename_i id off
    split at hq <;> simp only [Option.some.injEq, Prod.mk.injEq, reduceCtorEq] at hq
    rename_i old hvar
    obtain ⟨rfl, rfl, rfl⟩ := hq
    obtain ⟨h0, h1, h2, h3⟩ := hp
    have hid : h id = some (.var old) := by
      unfold varOf at hvar
      split at hvar <;> simp only [Option.some.injEq, reduceCtorEq] at hvar
      rename_i hh
      rw [hh, hvar]
    obtain ⟨b1, b2, rcs, tt, b3, b4, b5⟩ := hM.blk _ _ hid
    obtain ⟨e1, M1⟩ := var_written hM hid hcl hcv h3 b3
    cases hvp
    exact ⟨by rw [hid]; rfl, _, run_storeAt hT _ off ru rcs tt b3 (by omega) (by omega) (cells_one hcl hcv h2), e1, M1⟩
  · rename_i id ver k j
    split at hq <;> simp only [Option.some.injEq, Prod.mk.injEq, reduceCtorEq] at hq
    rename_i z es l ys l' hrow hpl
    obtain ⟨rfl, rfl, rfl⟩ := hq
    obtain ⟨h0, h1, h2, h3, h4⟩ := hp
    obtain ⟨e, he⟩ := Option.isSome_iff_exists.1 h3
    rw [he] at h4 ⊢
    simp only [Option.getD_some] at h4 ⊢
    have hid := rowOf_some hrow
    obtain ⟨b1, b2, b3, b4⟩ := hM.blk _ _ hid
    have hk := (List.getElem?_eq_some_iff.1 he).1
    have hpos : 0 < (m.ψ id).2 := by omega
    obtain ⟨g1, g2, rcs, tt, g3, g4, g5⟩ := b4 hpos
    obtain ⟨pl, pg⟩ := plains_get hpl
    simp only at pl
    have hez := b3 k e he
    have hfit : k * z + j + cs.length ≤ rcs.size := by
      have h5 : (k + 1) * z ≤ (m.ψ id).2 * z := Nat.mul_le_mul_right _ (by omega)
      rw [Nat.add_mul] at h5
      omega
    cases hvp with
    | eptr _ _ _ _ ad hids hver hra =>
      have had := hra _ _ _ hrow
      rw [add_lit, Nat.zero_add] at had
      subst had
      have hrun := run_storeAt (w := w) hT (m.ψ id).1 (k * z + j) ru rcs tt g3 (by omega) (by omega) (cells_one hcl hcv h2)
      obtain ⟨s1, s2⟩ := splice_get rcs.toList ru.cells.toList (k * z + j) (by simp; omega)
      obtain ⟨t1, t2⟩ := splice_get e ys j (by omega)
      have key := hM.rewrite hid (g := (m.ψ id).1) (by simp [placeB, hpos]) (b' := .row ver z (es.set k (setT e j ys)) (l && l')) (by simp [placeB, hpos])
        (fun _ _ _ _ e => by cases e; exact ⟨_, _, rfl⟩) (grown_setRow w (m.ψ id).1 (rcs.toList.take (k * z + j) ++ ru.cells.toList ++ rcs.toList.drop (k * z + j + ru.cells.toList.length)).toArray) fun hext => by
        refine ⟨by simpa using b1, by simpa using b2, fun i e' he' => ?_, fun _ => ⟨g1, g2, _, tt, setRow_heap w _ _ _ _ _ g3, by simp only [List.size_toArray]; rw [s1]; simpa using g4, fun i q e' y he' hy => ?_⟩⟩
        · by_cases hik : i = k
          · subst hik
            rw [List.getElem?_set_self hk] at he'
            simp only [Option.some.injEq] at he'
            subst he'
            unfold setT
            rw [t1, hez]
          · rw [List.getElem?_set_ne (Ne.symm hik)] at he'
            exact b3 i e' he'
        · have hmono : ∀ {v : Value} {b : Bool}, ((l && l') = true → b = true) → Rep w (m.ok c.B b) v y → Rep (w.setRow (m.ψ id).1 (rcs.toList.take (k * z + j) ++ ru.cells.toList ++ rcs.toList.drop (k * z + j + ru.cells.toList.length)).toArray) (m.ok c.B (l && l')) v y :=
            fun hb hr => hr.mono (fun b hb' => ⟨hb'.1, fun e => hb'.2 (hb e)⟩) (fun b hb' => setRow_other w _ _ _ (fun e => g2 (by rw [← e]; exact hb'.1)))
          simp only [List.getElem?_toArray]
          by_cases hik : i = k
          · subst hik
            rw [List.getElem?_set_self hk] at he'
            simp only [Option.some.injEq] at he'
            subst he'
            unfold setT at hy
            rw [t2 q] at hy
            rw [s2]
            by_cases hq : j ≤ q ∧ q < j + ys.length
            · rw [if_pos hq] at hy
              have hlt : q - j < cs.length := by omega
              obtain ⟨u1, hu1⟩ := list_get hlt
              obtain ⟨pq, hpq, hpy, hpl'⟩ := pg _ _ hu1
              rw [hy] at hpy
              simp only [Option.some.injEq] at hpy
              obtain ⟨v1, hv1⟩ : ∃ v1, ru.cells[q - j]? = some v1 := ⟨ru.cells[q - j]'(by omega), by simp⟩
              refine ⟨v1, ?_, ?_⟩
              · rw [if_pos (by simp; omega)]
                rw [show i * z + q - (i * z + j) = q - j by omega]
                simpa using hv1
              · have := vr_rep hpq (hcv _ _ _ hv1 hu1)
                rw [← hpy] at this
                exact hmono (by simp; intro _ hh; exact hpl' hh) this
            · rw [if_neg hq] at hy
              obtain ⟨vv, hv1, hv2⟩ := g5 i q e y he hy
              refine ⟨vv, ?_, hmono (by simp; intro hh _; exact hh) hv2⟩
              rw [if_neg (by simp; omega)]
              simpa using hv1
          · rw [List.getElem?_set_ne (Ne.symm hik)] at he'
            obtain ⟨vv, hv1, hv2⟩ := g5 i q e' y he' hy
            refine ⟨vv, ?_, hmono (by simp; intro hh _; exact hh) hv2⟩
            have hqz : q < z := by have := (List.getElem?_eq_some_iff.1 hy).1; rw [b3 i e' he'] at this; exact this
            rw [s2, if_neg]
            · simpa using hv1
            · simp only [Array.length_toList]
              rintro ⟨c1, c2⟩
              rcases Nat.lt_or_gt_of_ne hik with h | h
              · have : (i + 1) * z ≤ k * z := Nat.mul_le_mul_right _ h
                rw [Nat.add_mul] at this
                omega
              · have : (k + 1) * z ≤ i * z := Nat.mul_le_mul_right _ h
                rw [Nat.add_mul] at this
                omega
      exact ⟨by rw [hid]; rfl, _, hrun, key.1, key.2⟩

theorem flatten_get {α : Type} {z : Nat} (h0 : 0 < z) : ∀ (xs : List (List α)), (∀ e ∈ xs, e.length = z) → xs.flatten.length = xs.length * z ∧ ∀ (j : Nat) (x : α), xs.flatten[j]? = some x → ∃ e, xs[j / z]? = some e ∧ e[j % z]? = some x
  | [], _ => by simp
  | e :: xs, hz => by
    obtain ⟨h1, h2⟩ := flatten_get h0 xs (fun e he => hz e (List.mem_cons_of_mem _ he))
    have he := hz e (List.mem_cons_self ..)
    refine ⟨by simp [h1, he, Nat.add_mul]; omega, fun j x hx => ?_⟩
    rw [List.flatten_cons] at hx
    by_cases hj : j < z
    · rw [List.getElem?_append_left (by omega)] at hx
      exact ⟨e, by rw [Nat.div_eq_of_lt hj]; rfl, by rw [Nat.mod_eq_of_lt hj]; exact hx⟩
    · rw [List.getElem?_append_right (by omega), he] at hx
      obtain ⟨e', he', hx'⟩ := h2 _ _ hx
      have hd : j / z = (j - z) / z + 1 := by rw [Nat.div_eq_sub_div h0 (by omega)]
      have hm : j % z = (j - z) % z := by rw [Nat.mod_eq_sub_mod (by omega)]
      exact ⟨e', by rw [hd]; simpa using he', by rw [hm]; exact hx'⟩

theorem qCopy_sound (hP : TIok P ti) (hM : Mem c m h w) {t t' : Nat} {p u : AV} {rp ru : Value} (hvp : VR m c.B h w rp p) (hvu : VR m c.B h w ru u)
    {pr : Prop} {v : AV} {i' : Nat} {b : Blk} (hq : qCopy ti h t p u = some (pr, v, i', b)) (hp : pr) (ty : TypeId) :
    ∃ n : Nat, v = .t (.i .i64 n) true ∧ (h i').isSome = true ∧ ∃ w', (Builtin.copy_ #[t, t'] ty #[rp, ru]).run P w = .ok (.int .i64 n) w' ∧ Ext m h w m (setH h i' b) w' ∧ Mem c m (setH h i' b) w' := by
  unfold qCopy at hq
  split at hq <;> try cases hq
  rename_i id off len z xs l i hel hi
  split at hq <;> simp only [Option.some.injEq, Prod.mk.injEq, reduceCtorEq] at hq
  rename_i old hvar
  obtain ⟨rfl, rfl, rfl, rfl⟩ := hq
  obtain ⟨rfl, h0, h1, hok⟩ := hp
  obtain ⟨et, hut, hT⟩ := elemOfS_some hP hi
  have hid : h id = some (.var old) := by
    unfold varOf at hvar
    split at hvar <;> simp only [Option.some.injEq, reduceCtorEq] at hvar
    rename_i hh
    rw [hh, hvar]
  obtain ⟨b1, b2, rcs, tt, b3, b4, b5⟩ := hM.blk _ _ hid
  obtain ⟨A', k, rfl, hr1, news, hnl, hnews, hnr⟩ := elems_cells hM hel hvu i.sz (okEs_len hok) h0
  simp only at hnl hnews hnr hr1
  cases hvp with
  | vs _ _ _ _ cap A hids hc hA =>
    have hmin : Nat.min xs.length len = min xs.length len := rfl
    refine ⟨min xs.length len, rfl, by rw [hid]; rfl, ?_⟩
    rcases Nat.eq_zero_or_pos (min xs.length len) with hz | hpos
    · have hset : setAt old off [] = old := by simp [setAt]
      rw [hz]
      simp only [List.take_zero, List.flatten_nil, List.map_nil, hset]
      have hsame : setH h id (.var old) = h := by
        funext j
        by_cases e : j = id
        · subst e; simp [setH, hid]
        · simp [setH, e]
      rw [hsame]
      refine ⟨w, ?_, Ext.refl _ _ _, hM⟩
      have hf : (Builtin.firstCells i.sz 0 (.slice A' xs.length k)).run P w = .ok #[] w := by
        cases A' with
        | none => exact run_firstCells_none ..
        | some ad => exact run_firstCells_some (P := P) w i.sz 0 ad xs.length k [] (by simp) (by simp)
      cases A <;> simp [Builtin.copy_, run_underlying hut, Builtin.lenOf, hmin, hz, hT.run_size, hf, storeCells, goInt]
    · have hxl : 0 < xs.length := by omega
      obtain ⟨ad, rfl, hcell⟩ := hnews hxl
      obtain rfl := hA (by omega)
      have htl : (news.take (min xs.length len * i.sz)).length = min xs.length len * i.sz := by
        rw [List.length_take, hnl]
        exact Nat.min_eq_left (Nat.mul_le_mul_right _ (Nat.min_le_left _ _))
      have hf := run_firstCells_some (P := P) w i.sz (min xs.length len) ad xs.length k (news.take (min xs.length len * i.sz)) htl (fun j v hj => by
        have hjl := (List.getElem?_eq_some_iff.1 hj).1
        rw [htl] at hjl
        rw [List.getElem?_take_of_lt hjl] at hj
        exact hcell j v hj)
      obtain ⟨f1, f2⟩ := flatten_get h0 (xs.take (min xs.length len)) (fun e he => okEs_len hok e (List.mem_of_mem_take he))
      have hfl : ((xs.take (min xs.length len)).flatten.map (AV.t · l)).length = min xs.length len * i.sz := by
        rw [List.length_map, f1, List.length_take, Nat.min_eq_left (Nat.min_le_left _ _)]
      have hle : min xs.length len * i.sz ≤ len * i.sz := Nat.mul_le_mul_right _ (Nat.min_le_right _ _)
      obtain ⟨e1, M1⟩ := var_written hM hid (off := off) (cs := (xs.take (min xs.length len)).flatten.map (AV.t · l)) (vs := (news.take (min xs.length len * i.sz)).toArray) (by rw [hfl]; simpa using htl) (fun j u x hu hx => by
        rw [List.getElem?_map] at hx
        simp only [Option.map_eq_some_iff] at hx
        obtain ⟨y, hy, rfl⟩ := hx
        obtain ⟨e, he, hye⟩ := f2 j y hy
        have hjl := (List.getElem?_eq_some_iff.1 hy).1
        rw [f1] at hjl
        have hdj : j / i.sz < min xs.length len := by
          have := (List.getElem?_eq_some_iff.1 he).1
          rw [List.length_take] at this
          omega
        rw [List.getElem?_take_of_lt hdj] at he
        obtain ⟨v, hv, hrep⟩ := hnr _ _ _ _ he hye
        rw [Nat.mul_comm, Nat.div_add_mod] at hv
        simp only [List.getElem?_toArray] at hu
        have hjl2 := (List.getElem?_eq_some_iff.1 hu).1
        rw [htl] at hjl2
        rw [List.getElem?_take_of_lt hjl2, hv] at hu
        simp only [Option.some.injEq] at hu
        subst hu
        exact .t _ _ _ hrep) (by rw [hfl]; omega) b3
      have hst := run_storeCells_at P (m.φ id) off tt (news.take (min xs.length len * i.sz)) 0 rcs w b3 (by rw [htl]; omega) (fun u hu => news_one hok h0 hnl hnr u (List.mem_of_mem_take hu))
      simp only [Nat.add_zero] at hst
      refine ⟨_, ?_, e1, M1⟩
      simp [Builtin.copy_, run_underlying hut, Builtin.lenOf, hmin, hT.run_size, hf, hst, goInt]

/-- An operation that writes. -/
theorem qw_sound (hP : TIok P ti) {tm : Tm} {a : Act} (hS : Sat c m h tm a w) {o : Oper} (hd : ∀ t, o.dst = some t → t < c.n) {pr : Prop} {v : Option AV} {id : Nat} {b : Blk} (hq : qw ti tm h o.dst o.op = some (pr, v, id, b)) (hp : pr) :
    (h id).isSome = true ∧ ∃ nx w', (execOp a.eval o).run P w = .ok nx w' ∧
      ((nx = .skip ∧ Sat c m (setH h id b) (pt tm o.dst v) (a.put o.dst undef) w') ∨ ∃ u, nx = .value u ∧ Sat c m (setH h id b) (pt tm o.dst v) (a.put o.dst u) w') := by
  obtain ⟨dst, op, ty, pos, after, guard⟩ := o
  simp only at hq hd ⊢
  cases op <;> simp only [qw, reduceCtorEq] at hq
  case store t x y =>
    split at hq <;> try cases hq
    rename_i p u hx hy
    split at hq <;> simp only [Option.some.injEq, Prod.mk.injEq, reduceCtorEq] at hq
    rename_i hqs
    obtain ⟨rfl, rfl, rfl, rfl⟩ := hq
    obtain ⟨hi, w', hr, he, hM⟩ := qStore_sound hP hS.mem (ev_vr hS hx) (ev_vr hS hy) hqs hp
    exact ⟨hi, .skip, w', by simp [execOp, hr], .inl ⟨rfl, hS.of_mem he hM⟩⟩
  case call cl =>
    obtain ⟨callee, args, tys⟩ := cl
    split at hq <;> try cases hq
    rename_i p u t t' hcal hvs hty
    simp only at hcal hvs hty
    subst hcal
    split at hq <;> simp only [Option.some.injEq, Prod.mk.injEq, reduceCtorEq] at hq
    rename_i hqc
    obtain ⟨rfl, rfl, rfl, rfl⟩ := hq
    obtain ⟨x, y, hx, hv, hv2⟩ := evs_two hS hvs
    have e1 : args = #[x, y] := by apply Array.ext'; simpa using hx
    have e2 : tys = #[t, t'] := by apply Array.ext'; simpa using hty
    subst e1; subst e2
    obtain ⟨n, rfl, hi, w', hr, he, hM⟩ := qCopy_sound (P := P) (t' := t') hP hS.mem hv hv2 hqc hp ty
    exact ⟨hi, .value (.int .i64 n), w', by simp [execOp, resolve, invoke, builtin, hr], .inr ⟨_, rfl, (hS.of_mem he hM).put dst hd (.t _ _ _ (.i _ _))⟩⟩

theorem qst_sound {x : Cx} {s s' : S} {tm : Tm} {a : Act} (hP : TIok P x.ti) (hS : Sat c m (lk s.hp) s.tm a w) {o : Oper} (hd : ∀ t, o.dst = some t → t < c.n) {pr : Prop} (hq : qst x s o.dst o.op = some (pr, s')) (hp : pr) :
    ∃ nx w', (execOp a.eval o).run P w = .ok nx w' ∧
      ((nx = .skip ∧ Sat c m (lk s'.hp) s'.tm (a.put o.dst undef) w') ∨ ∃ v, nx = .value v ∧ Sat c m (lk s'.hp) s'.tm (a.put o.dst v) w') := by
  unfold qst at hq
  split at hq <;> simp only [Option.some.injEq, Prod.mk.injEq, reduceCtorEq] at hq
  rename_i p v id b hqw
  obtain ⟨rfl, rfl⟩ := hq
  obtain ⟨hi, nx, w', h1, h2⟩ := qw_sound hP hS hd hqw hp
  obtain ⟨b0, hb0⟩ := Option.isSome_iff_exists.1 hi
  rw [← lk_set hb0] at h2
  exact ⟨nx, w', h1, h2⟩
end
end Go.Proofs.Ytadnjellfiafaaa.Pm
