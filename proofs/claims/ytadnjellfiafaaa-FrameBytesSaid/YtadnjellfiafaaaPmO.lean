/- The abstract machine, fifteenth part: append. No law of Go's is stated here. -/
import Derived.Test.YtadnjellfiafaaaPmN
import Derived.Lib.AppendZerosOnto
set_option linter.all false
namespace Go.Proofs.Ytadnjellfiafaaa.Pm
open Go Go.RowKit

section
variable {P : Program} {w w' : World} {c : Ct} {m m' : Mp} {h h' h1 : H} {ti : Nat → Option TI} {tm : Tm} {a : Act}

theorem rowOf_sub (hs : Sub h1 h) {id ver : Nat} {r : Nat × List (List T) × Bool} (hr : rowOf h1 id ver = some r) : rowOf h id ver = some r := by
  obtain ⟨z, es, l⟩ := r
  exact (hs.row hr).2
theorem varOf_sub (hs : Sub h1 h) {id : Nat} {cs : List AV} (hr : varOf h1 id = some cs) : varOf h id = some cs := by
  have := hs.var hr
  simp [varOf, this]
theorem elems_sub (hs : Sub h1 h) {u : AV} {p : List (List T) × Bool} (hp : elems h1 u = some p) : elems h u = some p := by
  unfold elems at hp ⊢
  split at hp
  · exact hp
  · exact hp
  · exact hp
  · exact hp
  · split at hp
    · rename_i hr; simp only [rowOf_sub hs hr]; exact hp
    · cases hp
  · split at hp
    · rename_i hr; simp only [varOf_sub hs hr]; exact hp
    · cases hp
  · cases hp
theorem emb_sub (hs : Sub h1 h) {u : AV} {p : T × Bool × List (Nat × Blk)} (hp : emb h1 u = some p) : emb h u = some p := by
  unfold emb at hp ⊢
  split at hp
  · exact hp
  · exact hp
  · exact hp
  · split at hp
    · rename_i hr; simp only [rowOf_sub hs hr]; exact hp
    · cases hp
  · cases hp
theorem embs_sub (hs : Sub h1 h) : ∀ {us : List AV} {p : List T × Bool × List (Nat × Blk)}, embs h1 us = some p → embs h us = some p
  | [], p, hp => hp
  | v :: vs, p, hp => by
    simp only [embs] at hp ⊢
    split at hp <;> try cases hp
    rename_i e1 e2
    simp only [emb_sub hs e1, embs_sub hs e2]
theorem fillS_sub (hs : Sub h1 h) {z : Nat} : ∀ {ps : List (Nat × Operand)} {es : List (List T)} {r : List (List T) × Bool × List (Nat × Blk)}, fillS h1 tm z ps es = some r → fillS h tm z ps es = some r
  | [], es, r, hr => hr
  | (k, x) :: ps, es, r, hr => by
    simp only [fillS] at hr ⊢
    split at hr <;> try cases hr
    rename_i hx
    split at hr <;> try cases hr
    rename_i hc
    split at hr <;> try cases hr
    rename_i he
    simp only [embs_sub hs he]
    split at hr <;> try cases hr
    rename_i hcond
    rw [if_pos hcond]
    split at hr <;> try cases hr
    rename_i hrec
    simp only [fillS_sub hs hrec]

theorem news_one {xs : List (List T)} {z : Nat} (hok : okEs z xs) (h0 : 0 < z) {B : Nat → Prop} {news : List Value} (hl : news.length = xs.length * z)
    (hr : ∀ (i j : Nat) (e : List T) (x : T), xs[i]? = some e → e[j]? = some x → ∃ v, news[i * z + j]? = some v ∧ Rep w B v x) : ∀ u ∈ news, u.oneCell' = true := by
  intro u hu
  obtain ⟨k, hk⟩ := List.getElem?_of_mem hu
  have hlt := (List.getElem?_eq_some_iff.1 hk).1
  have hi : k / z < xs.length := Nat.div_lt_of_lt_mul (by rw [Nat.mul_comm, ← hl]; exact hlt)
  obtain ⟨e, he⟩ := list_get hi
  obtain ⟨hel, hone⟩ := hok e (List.mem_of_getElem? he)
  obtain ⟨x, hx⟩ := list_get (l := e) (j := k % z) (by rw [hel]; exact Nat.mod_lt _ h0)
  obtain ⟨v, hv, hrep⟩ := hr _ _ _ _ he hx
  rw [Nat.mul_comm, Nat.div_add_mod, hk] at hv
  simp only [Option.some.injEq] at hv
  subst hv
  exact one_of_rep hrep (hone x (List.mem_of_getElem? hx))

theorem okEs_len {xs : List (List T)} {z : Nat} (hok : okEs z xs) : ∀ e ∈ xs, e.length = z := fun e he => (hok e he).1

theorem below_drew (w : World) : Below w.heap.size w w.drew := (Below.refl _ w).drew

/-- A new array that holds these cells, and zeros. -/
theorem grown_row (hM : Mem c m h w) {n : Nat} (hn : h n = none) {ty : TypeId} {z k : Nat} {es : List (List T)} {l : Bool} {cells : List Value} (zc : Array Value) (hzc : zc.size = z) (hcl : cells.length = es.length * z)
    (hk : es.length ≤ k) (hroom : es.length ≤ room) (hz : ∀ e ∈ es, e.length = z)
    (hr : ∀ (i j : Nat) (e : List T) (x : T), es[i]? = some e → e[j]? = some x → ∃ v, cells[i * z + j]? = some v ∧ Rep w (m.ok c.B l) v x) :
    ∃ m', Ext m h w m' (setH h n (.row 0 z es l)) (w.drew.alloc (.cells (cells.toArray ++ Builtin.zeroCells zc (k - es.length)) ty)) ∧
      Mem c m' (setH h n (.row 0 z es l)) (w.drew.alloc (.cells (cells.toArray ++ Builtin.zeroCells zc (k - es.length)) ty)) ∧ m'.ψ n = (w.heap.size, k) := by
  obtain ⟨e1, M1⟩ := hM.grow (below_drew w)
  obtain ⟨m', e2, M2, hψ⟩ := M1.newRow hn (cells.toArray ++ Builtin.zeroCells zc (k - es.length)) ty z k es l hk hroom (fun i e he => hz e (List.mem_of_getElem? he)) (by
    rw [Array.size_append, List.size_toArray, size_zeroCells, hcl, hzc, ← Nat.add_mul]
    exact Nat.mul_le_mul_right _ (by omega)) (fun i j e x he hx => by
    obtain ⟨v, hv, hrep⟩ := hr i j e x he hx
    refine ⟨v, ?_, hrep.mono (fun _ hb => hb) (fun _ _ => rfl)⟩
    rw [Array.getElem?_append_left (by simpa using (List.getElem?_eq_some_iff.1 hv).1)]
    simpa using hv)
  exact ⟨m', e1.trans e2, M2, hψ⟩

theorem bytes_bound {k nb : Nat} (h0 : 0 < nb) (hb : k * nb ≤ room) : k ≤ room := Nat.le_trans (Nat.le_mul_of_pos_right _ h0) hb

theorem zeroCells_made (zc : Array Value) (n : Nat) : Builtin.zeroCells zc n = madeCells zc (n * zc.size) := rfl
theorem qGrow_sound (hP : TIok P ti) (hM : Mem c m h w) {n : Nat} (hn : h n = none) {t t' : Nat} {v u : AV} {rv ru : Value} (hv : VR m c.B h w rv v) (hu : VR m c.B h w ru u)
    {p : Prop} {x : AV} {us : List (Nat × Blk)} (hq : qGrow ti n t t' v u = some (p, x, us)) (hp : p) (ty : TypeId) :
    ∃ r w' m', (Builtin.append_ #[t, t'] ty #[rv, ru]).run P w = .ok r w' ∧ Ext m h w m' (uH h us) w' ∧ Mem c m' (uH h us) w' ∧ VR m' c.B (uH h us) w' r x := by
  unfold qGrow at hq
  split at hq <;> try cases hq
  rename_i i k' s1 s2 s3 k p' l hi hti
  obtain ⟨h0, hp0, hb, hr⟩ := hp
  obtain ⟨et, hut, hT⟩ := elemOfS_some hP hi
  obtain ⟨d', hud, hdo⟩ := (hP.ok _ _ hti).und
  cases d' <;> first | exact (Bool.false_ne_true hdo).elim | skip
  obtain ⟨inf, zv, hinf, hzv, hsz, hnb, hzs, _, hzl, hzr⟩ := zero_cells (m := m) (c := c) (h := h) (w := w) hT
  cases hv
  cases hu with
  | t _ _ _ hrep =>
    cases hrep
    obtain ⟨q, rfl⟩ : ∃ q : Nat, p' = q := ⟨p'.toNat, by omega⟩
    have hq0 : 0 < q := by omega
    have hge := grownCap_ge w q 0 et
    have hrun := Lib.run_append_grow_zeros (P := P) w t t' ty et inf zv k _ hut hud hinf hzv none 0 0 [] (run_firstCells_none _ _ _ _ _) q hq0 (by rw [hsz]; exact h0) (by omega) (by unfold room at hr; omega)
      (by rw [hnb]; unfold room at hb; omega) (growslice_fits (by omega) (by rw [hnb, Nat.zero_add]; unfold room at hb; omega))
    obtain ⟨m', e2, M2, hψ⟩ := grown_row hM hn (ty := et) (k := grownCap w q 0 et) (es := List.replicate q i.z) (l := true) (cells := (Builtin.zeroCells zv.cells q).toList) zv.cells hzs (by simp [size_zeroCells, hzs]) (by simpa using hge) (by unfold room at hr ⊢; simp; omega)
      (fun e he => by rw [(List.mem_replicate.1 he).2]; exact hzl)
      (fun a j e x ha hx => by
        obtain ⟨v, hv, hrep⟩ := zeros_row zv.cells hzs hzl (hzr _) q q (Nat.le_refl _) h0 a j e x ha hx
        exact ⟨v, by rw [zeroCells_made, hzs]; simpa using hv, hrep⟩)
    have eU : uH h [(n, Blk.row 0 i.sz (List.replicate ((q : Nat) : Int).toNat i.z) true)] = setH h n (.row 0 i.sz (List.replicate q i.z) true) := rfl
    rw [eU]
    refine ⟨_, _, m', hrun, ?_, ?_, ?_⟩
    · simpa using e2
    · simpa using M2
    · have := row_new (w := w) (z := i.sz) (es := List.replicate q i.z) (l := true) (len := q) (m := m') (h := setH h n (.row 0 i.sz (List.replicate q i.z) true)) hψ hge (W := w.drew.alloc (.cells ((Builtin.zeroCells zv.cells q).toList.toArray ++ Builtin.zeroCells zv.cells (grownCap w q 0 et - (List.replicate q i.z).length)) et)) (B := c.B) (by simp [setH])
      simpa using this

theorem flat_rep {B B' : Nat → Prop} {v : Value} {x : T} (hx : x.flat = true) (hr : Rep w B v x) : Rep w B' v x := by
  cases hr <;> simp only [T.flat, Bool.false_eq_true] at hx
  · exact .i _ _
  · exact .b _
  · exact .s _
theorem flats_get : ∀ {xs : List (List T)} {i : Nat} {e : List T}, flats xs = true → xs[i]? = some e → ∀ x ∈ e, x.flat = true
  | [], _, _, _, h => by simp at h
  | y :: ys, i, e, hf, h => by
    simp only [flats, Bool.and_eq_true, List.all_eq_true] at hf
    cases i with
    | zero => simp at h; subst h; exact hf.1
    | succ i => exact flats_get hf.2 (by simpa using h)
theorem flag_rep {xs : List (List T)} {lx lf : Bool} (hlf : flagOf xs lx = lf) {f : Nat → Nat → Option Value} {m : Mp} {B : Nat}
    (h : ∀ (i j : Nat) (e : List T) (x : T), xs[i]? = some e → e[j]? = some x → ∃ v, f i j = some v ∧ Rep w (m.ok B lx) v x) :
    ∀ (i j : Nat) (e : List T) (x : T), xs[i]? = some e → e[j]? = some x → ∃ v, f i j = some v ∧ Rep w (m.ok B lf) v x := by
  intro i j e x he hx
  obtain ⟨v, h1, h2⟩ := h i j e x he hx
  refine ⟨v, h1, ?_⟩
  subst hlf
  cases lx with
  | true => exact h2
  | false =>
    cases hf : flats xs with
    | false => simpa [flagOf, hf] using h2
    | true => exact flat_rep (flats_get hf he x (List.mem_of_getElem? hx)) h2

theorem qAppend_sound (hP : TIok P ti) (hM : Mem c m h w) (hs : Sub h1 h) {n : Nat} (hn : h n = none) {t : Nat} {v u : AV} {rv ru : Value} (hv : VR m c.B h w rv v) (hu : VR m c.B h w ru u)
    {p : Prop} {x : AV} {us : List (Nat × Blk)} (hq : qAppend ti h1 n t v u = some (p, x, us)) (hp : p) (ty : TypeId) :
    ∃ r w' m', (Builtin.append_ #[t, t] ty #[rv, ru]).run P w = .ok r w' ∧ Ext m h w m' (uH h us) w' ∧ Mem c m' (uH h us) w' ∧ VR m' c.B (uH h us) w' r x := by
  unfold qAppend at hq
  split at hq <;> try cases hq
  rename_i i xs lx hi hel
  obtain ⟨et, hut, hT⟩ := elemOfS_some hP hi
  obtain ⟨inf, zv, hinf, hzv, hsz, hnb, hzs, _, _, _⟩ := zero_cells (m := m) (c := c) (h := h) (w := w) hT
  have hel' := elems_sub hs hel
  generalize hlf : flagOf xs lx = lf at hq
  -- nothing or something onto nothing
  have onto : ∀ (A : Option Addr), (0 < i.sz ∧ 0 < i.nb ∧ okEs i.sz xs ∧ xs.length * i.nb ≤ room) →
      ∃ r w' m', (Builtin.append_ #[t, t] ty #[.slice A 0 0, ru]).run P w = .ok r w' ∧ Ext m h w m' (uH h [(n, .row 0 i.sz xs lf)]) w' ∧ Mem c m' (uH h [(n, .row 0 i.sz xs lf)]) w' ∧
        VR m' c.B (uH h [(n, .row 0 i.sz xs lf)]) w' r (.row n 0 0 xs.length) := by
    intro A ⟨h0, hb0, hok, hroom⟩
    obtain ⟨A', k, rfl, hr1, news, hnl, hnews, hnr⟩ := elems_cells hM hel' hu i.sz (okEs_len hok) h0
    simp only at hnl hnews hnr
    replace hnr := flag_rep hlf hnr
    have hxr := bytes_bound hb0 hroom
    rcases Nat.eq_zero_or_pos xs.length with hz | hpos
    · have hnil : xs = [] := List.eq_nil_of_length_eq_zero hz
      subst hnil
      refine ⟨.slice A 0 0, w, _, run_append_nothing hut hinf A A' 0 0 k (Nat.le_refl _), (hM.add hn (.row 0 i.sz [] lf) 0 (0, 0) (fun g hg => by simp [placeB, setF] at hg) (fun he => ⟨by simp [setF], by simp, by simp, fun h0 => by simp [setF] at h0⟩)).1,
        (hM.add hn (.row 0 i.sz [] lf) 0 (0, 0) (fun g hg => by simp [placeB, setF] at hg) (fun he => ⟨by simp [setF], by simp, by simp, fun h0 => by simp [setF] at h0⟩)).2, ?_⟩
      exact .row n 0 0 0 0 A (by simp [uH]) (fun _ _ _ _ _ => Nat.zero_le _) (Nat.le_refl _) fun z es l hr => ⟨by simp, by simp⟩
    · obtain ⟨ad, rfl, hcell⟩ := hnews hpos
      have hge := grownCap_ge w xs.length 0 et
      obtain ⟨m', e2, M2, hψ⟩ := grown_row hM hn (ty := et) (k := grownCap w xs.length 0 et) (l := lf) zv.cells hzs hnl hge hxr (okEs_len hok) hnr
      refine ⟨_, _, m', ?_, e2, M2, row_new (h := setH h n (.row 0 i.sz xs lf)) (z := i.sz) (es := xs) (l := lf) hψ hge (by simp [setH])⟩
      have hroom' : xs.length * inf.bytes ≤ 140737488355328 := by rw [hnb]; exact hroom
      have hlt : (xs.length : Int) ≤ 9223372036854775807 := by unfold room at hxr; omega
      rcases A with _ | b
      · exact run_append_nil w t ty et inf zv hut hinf hzv ad xs.length k news (by rw [hsz]; exact hnl) hcell hpos hlt (by omega)
      · have := run_append_grow (P := P) w t ty et inf zv hut hinf hzv b 0 0 [] (by simp) (by simp) ad xs.length k news (by rw [hsz]; exact hnl) hcell (by omega) (by simpa using hlt) (by rw [Nat.zero_add]; exact growslice_fits hpos hroom')
        simpa using this
  split at hq
  · simp only [Option.some.injEq, Prod.mk.injEq] at hq
    obtain ⟨rfl, rfl, rfl⟩ := hq
    cases hv
    exact onto none hp
  · simp only [Option.some.injEq, Prod.mk.injEq] at hq
    obtain ⟨rfl, rfl, rfl⟩ := hq
    cases hv with
    | e0 A => exact onto A hp
  · rename_i id ver off len
    split at hq <;> simp only [Option.some.injEq, Prod.mk.injEq, reduceCtorEq] at hq
    rename_i z es l hrow
    obtain ⟨rfl, rfl, rfl⟩ := hq
    obtain ⟨h0, hb0, hok, rfl, hlen, rfl, hroom⟩ := hp
    have hrow' := rowOf_sub hs hrow
    have hid := rowOf_some hrow'
    obtain ⟨A', k, rfl, hr1, news, hnl, hnews, hnr⟩ := elems_cells hM hel' hu i.sz (okEs_len hok) h0
    simp only at hnl hnews hnr hr1
    replace hnr := flag_rep hlf hnr
    have hxr := bytes_bound hb0 hroom
    obtain ⟨b1, b2, b3, b4⟩ := hM.blk _ _ hid
    have hnew : (es.take len ++ xs).length = len + xs.length := by simp; omega
    have hzz : ∀ e ∈ es.take len ++ xs, e.length = i.sz := fun e he => by
      rcases List.mem_append.1 he with he | he
      · obtain ⟨q, hq⟩ := List.getElem?_of_mem (List.mem_of_mem_take he)
        exact b3 q e hq
      · exact (hok e he).1
    cases hv with
    | row _ _ _ _ cap A hid' hver hcap hvr =>
      obtain ⟨v1, v2⟩ := hvr _ _ _ hrow'
      have hψ0 : 0 < cap → 0 < (m.ψ id).2 := fun h => by omega
      -- the elements that were there, as they are shown
      have old : ∀ (q : Nat) (e : List T), (es.take len ++ xs)[q]? = some e → q < len → es[q]? = some e := fun q e he hq => by
        rw [List.getElem?_append_left (by simp; omega), List.getElem?_take_of_lt hq] at he
        exact he
      have fresh : ∀ (q : Nat) (e : List T), (es.take len ++ xs)[q]? = some e → ¬ q < len → xs[q - len]? = some e := fun q e he hq => by
        rw [List.getElem?_append_right (by simp; omega)] at he
        simp only [List.length_take] at he
        rwa [Nat.min_eq_left hlen] at he
      rcases Nat.eq_zero_or_pos xs.length with hz | hpos
      · -- nothing is appended
        have hnil : xs = [] := List.eq_nil_of_length_eq_zero hz
        subst hnil
        have G := hM.regrow hid (w' := w) ⟨rfl, rfl, rfl, Nat.le_refl _, fun _ _ _ => rfl⟩ (m.ψ id) (es.take len ++ []) (l && lf) (fun h => .inl ⟨rfl, h⟩) (fun he _ _ => by
          refine ⟨by simp [setF]; omega, by simp; omega, fun q e he' => hzz e (List.mem_of_getElem? he'), fun hψ => ?_⟩
          simp only [setF, if_true] at hψ ⊢
          obtain ⟨g1, g2, rcs, tt, g3, g4, g5⟩ := b4 hψ
          refine ⟨g1, g2, rcs, tt, g3, g4, fun q j e y hq hj => ?_⟩
          have hql : q < len := by have := (List.getElem?_eq_some_iff.1 hq).1; simp at this; omega
          obtain ⟨vv, hv1, hv2⟩ := g5 q j e y (old q e hq hql) hj
          exact ⟨vv, hv1, hv2.mono (fun b hb => ⟨hb.1, fun e => hb.2 (by simp at e; exact e.1)⟩) (fun _ _ => rfl)⟩)
        refine ⟨_, w, _, run_append_nothing hut hinf A A' len cap k hcap, G.1, G.2, ?_⟩
        refine .row id (ver + 1) 0 (len + 0) cap A (by simp [uH]) (fun v' z es l e => by simp [uH] at e; omega) hcap fun z' es' l' hr => ?_
        simp [uH, rowOf] at hr
        obtain ⟨rfl, rfl, rfl⟩ := hr
        simp only [setF, if_true]
        exact ⟨v1, v2⟩
      · obtain ⟨ad, rfl, hcell⟩ := hnews hpos
        have hlt : ((len + xs.length : Nat) : Int) ≤ 9223372036854775807 := by unfold room at hxr; omega
        by_cases hfit : len + xs.length ≤ cap
        · -- in place
          obtain ⟨g1, g2, rcs, tt, g3, g4, g5⟩ := b4 (hψ0 (by omega))
          have hA : A = some ⟨(m.ψ id).1, 0, none⟩ := by rw [v2 (by omega), Nat.zero_mul]; rfl
          subst hA
          have hcapz : (len + xs.length) * i.sz ≤ rcs.size := Nat.le_trans (Nat.mul_le_mul_right _ (by omega)) g4
          rw [Nat.add_mul] at hcapz
          have hrun := run_append_room' (P := P) (ty := ty) hut hinf (m.ψ id).1 len cap rcs tt g3 ad xs.length k news (by rw [hsz]; exact hnl) hcell (news_one hok h0 hnl hnr) hfit (by rw [hsz, hnl]; exact hcapz)
          rw [hsz] at hrun
          have hg : w.grownBy (w.setRow (m.ψ id).1 (rcs.toList.take (len * i.sz) ++ news ++ rcs.toList.drop (len * i.sz + news.length)).toArray) (if 0 < (m.ψ id).2 then some (m.ψ id).1 else none) :=
            ⟨rfl, rfl, rfl, by simp, fun b hb hne => setRow_other w _ _ _ (fun e => hne (by rw [if_pos (by omega), e]))⟩
          have G := hM.regrow hid hg (m.ψ id) (es.take len ++ xs) (l && lf) (fun h => .inl ⟨rfl, h⟩) (fun he _ _ => by
            refine ⟨by simp [setF]; omega, by rw [hnew]; exact hxr, fun q e he' => hzz e (List.mem_of_getElem? he'), fun hψ => ?_⟩
            simp only [setF, if_true] at hψ ⊢
            refine ⟨g1, g2, _, tt, setRow_heap w _ _ _ _ _ g3, by simp; omega, fun q j e y hq hj => ?_⟩
            have hjz : j < i.sz := by have := (List.getElem?_eq_some_iff.1 hj).1; rw [hzz e (List.mem_of_getElem? hq)] at this; exact this
            by_cases hql : q < len
            · obtain ⟨vv, hv1, hv2⟩ := g5 q j e y (old q e hq hql) hj
              have hqj : q * i.sz + j < len * i.sz := by
                have : (q + 1) * i.sz ≤ len * i.sz := Nat.mul_le_mul_right _ hql
                rw [Nat.add_mul] at this
                omega
              refine ⟨vv, ?_, hv2.mono (fun b hb => ⟨hb.1, fun e => hb.2 (by simp at e; exact e.1)⟩) (fun b hb => setRow_other w _ _ _ (fun e => g2 (by rw [← e]; exact hb.1)))⟩
              simp only [List.getElem?_toArray]
              rw [List.append_assoc, List.getElem?_append_left (by simp; omega), List.getElem?_take_of_lt hqj]
              simpa using hv1
            · obtain ⟨vv, hv1, hv2⟩ := hnr (q - len) j e y (fresh q e hq hql) hj
              have hqx := (List.getElem?_eq_some_iff.1 (fresh q e hq hql)).1
              have hidx : q * i.sz + j = len * i.sz + ((q - len) * i.sz + j) := by
                have : q = len + (q - len) := by omega
                conv => lhs; rw [this, Nat.add_mul]
                omega
              have hqj : (q - len) * i.sz + j < news.length := by
                rw [hnl]
                have : (q - len + 1) * i.sz ≤ xs.length * i.sz := Nat.mul_le_mul_right _ (by omega)
                rw [Nat.add_mul] at this
                omega
              have htl : (rcs.toList.take (len * i.sz)).length = len * i.sz := by simp; omega
              refine ⟨vv, ?_, hv2.mono (fun b hb => ⟨hb.1, fun e => hb.2 (by simp at e; exact e.2)⟩) (fun b hb => setRow_other w _ _ _ (fun e => g2 (by rw [← e]; exact hb.1)))⟩
              simp only [List.getElem?_toArray]
              rw [hidx, List.getElem?_append_left (by rw [List.length_append, htl]; omega), List.getElem?_append_right (by omega), htl, Nat.add_sub_cancel_left]
              exact hv1)
          refine ⟨_, _, _, hrun, G.1, G.2, ?_⟩
          refine .row id (ver + 1) 0 (len + xs.length) cap _ (by simp [uH]) (fun v' z es l e => by simp [uH] at e; omega) hfit fun z' es' l' hr => ?_
          simp [uH, rowOf] at hr
          obtain ⟨rfl, rfl, rfl⟩ := hr
          simp only [setF, if_true]
          exact ⟨v1, v2⟩
        · -- a new array
          obtain ⟨olds, hol, holds, hor⟩ : ∃ olds : List Value, olds.length = len * i.sz ∧ (∀ b, A = some b → ∀ (j : Nat) (vv : Value), olds[j]? = some vv → w.cell? (b.add j) = some vv) ∧
              ∀ (q j : Nat) (e : List T) (y : T), q < len → es[q]? = some e → e[j]? = some y → ∃ vv, olds[q * i.sz + j]? = some vv ∧ Rep w (m.ok c.B l) vv y := by
            by_cases hl0 : 0 < len
            · obtain ⟨g1, g2, rcs, tt, g3, g4, g5⟩ := b4 (by omega)
              have hle : len * i.sz ≤ rcs.size := Nat.le_trans (Nat.mul_le_mul_right _ (by omega)) g4
              refine ⟨rcs.toList.take (len * i.sz), by simp; omega, fun b hb j vv hj => ?_, fun q j e y hq he hj => ?_⟩
              · rw [v2 (by omega), Nat.zero_mul] at hb
                simp only [Option.some.injEq] at hb
                subst hb
                have hjl := (List.getElem?_eq_some_iff.1 hj).1
                simp at hjl
                rw [List.getElem?_take_of_lt (by omega)] at hj
                rw [add_lit, add_lit, cell_lit g3]
                simpa using hj
              · obtain ⟨vv, hv1, hv2⟩ := g5 q j e y he hj
                have hjz : j < i.sz := by have := (List.getElem?_eq_some_iff.1 hj).1; rw [b3 q e he] at this; exact this
                have hqj : q * i.sz + j < len * i.sz := by
                  have : (q + 1) * i.sz ≤ len * i.sz := Nat.mul_le_mul_right _ hq
                  rw [Nat.add_mul] at this
                  omega
                exact ⟨vv, by rw [List.getElem?_take_of_lt hqj]; simpa using hv1, hv2⟩
            · obtain rfl : len = 0 := by omega
              exact ⟨[], by simp, by simp, fun q j e y hq => by omega⟩
          have hcells : (olds ++ news).length = (es.take len ++ xs).length * i.sz := by rw [List.length_append, hol, hnl, hnew, Nat.add_mul]
          have hge := grownCap_ge w (len + xs.length) cap et
          have hroom' : (len + xs.length) * inf.bytes ≤ 140737488355328 := by rw [hnb]; exact hroom
          have hgr : w.grownBy (w.drew.alloc (.cells ((olds ++ news).toArray ++ Builtin.zeroCells zv.cells (grownCap w (len + xs.length) cap et - (len + xs.length))) et)) (if 0 < (m.ψ id).2 then some (m.ψ id).1 else none) :=
            ⟨rfl, rfl, rfl, by simp, fun b hb _ => heap_alloc_old w.drew _ (r := b) hb⟩
          have G := hM.regrow hid hgr (w.heap.size, grownCap w (len + xs.length) cap et) (es.take len ++ xs) (l && lf) (fun h => .inr (Nat.le_refl _)) (fun he hst hB => by
            refine ⟨by simp only [setF, if_true, hnew]; exact hge, by rw [hnew]; exact hxr, fun q e he' => hzz e (List.mem_of_getElem? he'), fun hψ => ?_⟩
            simp only [setF, if_true] at hψ ⊢
            refine ⟨hM.bsize, fun hs => Nat.lt_irrefl _ (hM.stlt _ hs), _, et, heap_alloc_new w.drew _, ?_, fun q j e y hq hj => ?_⟩
            · rw [Array.size_append, List.size_toArray, size_zeroCells, hcells, hnew, hzs, ← Nat.add_mul]
              exact Nat.mul_le_mul_right _ (by omega)
            · have hjz : j < i.sz := by have := (List.getElem?_eq_some_iff.1 hj).1; rw [hzz e (List.mem_of_getElem? hq)] at this; exact this
              have hmono : ∀ {vv : Value} {lb : Bool}, ((l && lf) = true → lb = true) → Rep w (m.ok c.B lb) vv y →
                  Rep (w.drew.alloc (.cells ((olds ++ news).toArray ++ Builtin.zeroCells zv.cells (grownCap w (len + xs.length) cap et - (len + xs.length))) et)) (Mp.ok { m with ψ := setF m.ψ id (w.heap.size, grownCap w (len + xs.length) cap et) } c.B (l && lf)) vv y :=
                fun hlb hr => hr.mono (fun b hb => ⟨hb.1, fun e => hb.2 (hlb e)⟩) (fun b hb => heap_alloc_old w.drew _ (r := b) (hM.stlt b hb.1))
              by_cases hql : q < len
              · obtain ⟨vv, hv1, hv2⟩ := hor q j e y hql (old q e hq hql) hj
                refine ⟨vv, ?_, hmono (by simp; intro a _; exact a) hv2⟩
                have hlt' := (List.getElem?_eq_some_iff.1 hv1).1
                rw [Array.getElem?_append_left (by simp; omega)]
                simp only [List.getElem?_toArray]
                rw [List.getElem?_append_left hlt']
                exact hv1
              · obtain ⟨vv, hv1, hv2⟩ := hnr (q - len) j e y (fresh q e hq hql) hj
                have hidx : q * i.sz + j = olds.length + ((q - len) * i.sz + j) := by
                  rw [hol]
                  have : q = len + (q - len) := by omega
                  conv => lhs; rw [this, Nat.add_mul]
                  omega
                have hlt' := (List.getElem?_eq_some_iff.1 hv1).1
                refine ⟨vv, ?_, hmono (by simp) hv2⟩
                rw [hidx, Array.getElem?_append_left (by simp; omega)]
                simp only [List.getElem?_toArray]
                rw [List.getElem?_append_right (by omega), Nat.add_sub_cancel_left]
                exact hv1)
          refine ⟨.slice (some ⟨w.heap.size, 0, none⟩) (len + xs.length) (grownCap w (len + xs.length) cap et), _, _, ?_, G.1, G.2, ?_⟩
          · rcases A with _ | b
            · have hcap0 : cap = 0 := by
                rcases Nat.eq_zero_or_pos cap with h | h
                · exact h
                · have := v2 h; cases this
              subst hcap0
              obtain rfl : len = 0 := by omega
              obtain rfl : olds = [] := List.eq_nil_of_length_eq_zero (by simpa using hol)
              have := run_append_nil w t ty et inf zv hut hinf hzv ad xs.length k news (by rw [hsz]; exact hnl) hcell hpos (by simpa using hlt) (by simp only [Nat.zero_add] at hroom'; omega)
              simpa using this
            · have := run_append_grow (P := P) w t ty et inf zv hut hinf hzv b len cap olds (by rw [hsz]; exact hol) (holds b rfl) ad xs.length k news (by rw [hsz]; exact hnl) hcell (by omega) hlt (growslice_fits (by omega) hroom')
              rw [this]
              congr 1
              simp
          · refine .row id (ver + 1) 0 (len + xs.length) _ _ (by simp [uH]) (fun v' z es l e => by simp [uH] at e; omega) hge fun z' es' l' hr => ?_
            simp only [setF, if_true]
            exact ⟨by omega, fun _ => by rw [add_lit]; simp⟩
  · cases hq
end
end Go.Proofs.Ytadnjellfiafaaa.Pm
