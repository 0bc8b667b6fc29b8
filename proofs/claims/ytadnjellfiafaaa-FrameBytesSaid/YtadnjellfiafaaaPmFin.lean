/- The abstract machine, closing: from a contract of a law to the given statement; what the arguments read as. No law of Go's is stated here. -/
import Derived.Test.YtadnjellfiafaaaPmV
import Derived.ProofKit
import Derived.OpenShut
import Derived.Carry
import Derived.SizedLaws
import Derived.ChangeCalls
set_option linter.all false
namespace Go.Proofs.Ytadnjellfiafaaa.Pm
open Go Go.RowKit Go.ChangeShapes Go.WideShapes Go.ChangeAt

def contig (P : Program) : Nat → List Field → Option Nat
  | o, [] => some o
  | o, f :: fs => if f.offset = o then contig P (o + P.cellsOf f.type) fs else none

/-- A type of numbers, bools, strings, slices, structs and arrays alone. -/
def plainTy (P : Program) : Nat → TypeId → Bool
  | 0, _ => false
  | d + 1, t => match P.underlying t with
    | some .bool | some (.int _) | some .string => true
    | some (.slice e) => decide (0 < P.cellsOf e) && decide (0 < P.bytesOf e) && plainTy P d e
    | some (.struct fs) => decide (contig P 0 fs.toList = some (P.cellsOf t)) && fs.toList.all fun f => plainTy P d f.type
    | some (.array n e) => decide (n * P.cellsOf e = P.cellsOf t) && plainTy P d e
    | _ => false

def All2 {α β : Type} (R : α → β → Prop) : List α → List β → Prop
  | [], [] => True
  | a :: as, b :: bs => R a b ∧ All2 R as bs
  | _, _ => False

theorem all2_cons {α β : Type} {R : α → β → Prop} {a : α} {as : List α} {xs : List β} (h : All2 R (a :: as) xs) : ∃ x xs', xs = x :: xs' ∧ R a x ∧ All2 R as xs' := by
  cases xs with
  | nil => exact h.elim
  | cons x xs' => exact ⟨x, xs', rfl, h⟩
theorem all2_nil {α β : Type} {R : α → β → Prop} {xs : List β} (h : All2 R [] xs) : xs = [] := by
  cases xs with
  | nil => rfl
  | cons x xs' => exact h.elim
/-- The cells of a type's value. -/
def Fits (P : Program) : Nat → TypeId → List T → Prop
  | 0, _, _ => False
  | d + 1, t, xs => match P.underlying t with
    | some .bool => ∃ b, xs = [.b b]
    | some (.int k) => ∃ n, xs = [.i k n] ∧ k.min ≤ n ∧ n ≤ k.max
    | some .string => ∃ s, xs = [.s s]
    | some (.slice e) => ∃ es, xs = [.sl es] ∧ es.length ≤ room ∧ ∀ x ∈ es, Fits P d e x
    | some (.struct fs) => ∃ ps, xs = ps.flatten ∧ All2 (fun (f : Field) p => Fits P d f.type p) fs.toList ps
    | some (.array n e) => ∃ ps : List (List T), xs = ps.flatten ∧ ps.length = n ∧ ∀ p ∈ ps, Fits P d e p
    | _ => False

/-- Cells read as trees. -/
def Reps (w : World) (cs : List Value) (xs : List T) : Prop := xs.length = cs.length ∧ ∀ (j : Nat) (v : Value) (y : T), cs[j]? = some v → xs[j]? = some y → Rep w (fun b => b < w.heap.size) v y

theorem Reps.nil {w : World} : Reps w [] [] := ⟨rfl, by simp⟩
theorem Reps.one {w : World} {v : Value} {y : T} (h : Rep w (fun b => b < w.heap.size) v y) : Reps w [v] [y] := ⟨rfl, fun j u z hu hz => by
  cases j with
  | zero => simp at hu hz; subst hu; subst hz; exact h
  | succ j => simp at hu⟩
theorem Reps.append {w : World} {cs cs' : List Value} {xs xs' : List T} (h : Reps w cs xs) (h' : Reps w cs' xs') : Reps w (cs ++ cs') (xs ++ xs') := by
  refine ⟨by simp [h.1, h'.1], fun j v y hv hy => ?_⟩
  rcases Nat.lt_or_ge j cs.length with hl | hl
  · rw [List.getElem?_append_left hl] at hv
    rw [List.getElem?_append_left (by rw [h.1]; exact hl)] at hy
    exact h.2 j v y hv hy
  · rw [List.getElem?_append_right hl] at hv
    rw [List.getElem?_append_right (by rw [h.1]; exact hl), h.1] at hy
    exact h'.2 _ v y hv hy

theorem cells_get {w : World} {base : Nat} {a : Addr} {n : Nat} {cs : List Value} (h : w.cells? base a n = some cs) : cs.length = n ∧ ∀ j v, cs[j]? = some v → w.cell? (a.add j) = some v := by
  unfold World.cells? at h
  split at h
  · have hl : cs.length = n := by simpa using mapM_some_length h
    refine ⟨hl, fun j v hv => ?_⟩
    have hj : j < n := by have := (List.getElem?_eq_some_iff.1 hv).1; omega
    have := mapM_some_get h j j (by simp [hj])
    rw [this, hv]
  · cases h

section
variable {H : Type} {enc : TypeId × Value → H} {P : Program} {w : World} {sp : Nat → Bool} {hd : Bool}

theorem cells_lt {a : Addr} {v : Value} (hc : w.cell? a = some v) : a.block < w.heap.size := by
  rcases Nat.lt_or_ge a.block w.heap.size with h | h
  · exact h
  · simp [World.cell?, Array.getElem?_eq_none h] at hc

theorem weights_slice {t e : TypeId} (A B : List (DataW H)) (hu : P.underlying t = some (.slice e)) : DataW.weights P t (.slice A B) = (A.length + B.length) * P.bytesOf e :: (DataW.weightsAll P e A ++ DataW.weightsAll P e B) := by
  simp [DataW.weights, hu]
theorem weights_struct {t : TypeId} {fs : Array Field} (A : List (DataW H)) (hu : P.underlying t = some (.struct fs)) : DataW.weights P t (.agg A) = DataW.weightsEach P (fs.toList.map (·.type)) A := by
  simp [DataW.weights, hu]
theorem weights_array {t e : TypeId} {n : Nat} (A : List (DataW H)) (hu : P.underlying t = some (.array n e)) : DataW.weights P t (.agg A) = DataW.weightsAll P e A := by
  simp [DataW.weights, hu]
theorem weightsAll_mem {e : TypeId} : ∀ {ds : List (DataW H)} {x : DataW H}, x ∈ ds → ∀ n ∈ x.weights P e, n ∈ DataW.weightsAll P e ds
  | d :: r, x, hx, n, hn => by
    simp only [DataW.weightsAll, List.mem_append]
    rcases List.mem_cons.1 hx with rfl | hx
    · exact .inl hn
    · exact .inr (weightsAll_mem hx n hn)

theorem read_fields (d : Nat) (n : Nat) (cs : List Value) (ih : ∀ (t : TypeId) (cs : List Value) (x : DataW H × List MemPlace), plainTy P d t = true → DataW.trod enc P w 0 sp hd n t cs = some x → (∀ k ∈ x.1.weights P t, k ≤ reachBytes) → ∃ xs, Fits P d t xs ∧ Reps w cs xs) :
    ∀ (fs : List Field) (o q : Nat), contig P o fs = some q → q ≤ cs.length → (fs.all fun f => plainTy P d f.type) = true → (∀ f ∈ fs, ∃ x, DataW.trod enc P w 0 sp hd n f.type ((cs.drop f.offset).take (P.cellsOf f.type)) = some x ∧ ∀ k ∈ x.1.weights P f.type, k ≤ reachBytes) →
      o ≤ q ∧ ∃ ps, All2 (fun (f : Field) p => Fits P d f.type p) fs ps ∧ Reps w ((cs.drop o).take (q - o)) ps.flatten
  | [], o, q, hc, hq, _, _ => by
    simp only [contig, Option.some.injEq] at hc
    subst hc
    exact ⟨Nat.le_refl _, [], trivial, by simp; exact Reps.nil⟩
  | f :: fs, o, q, hc, hq, hp, hx => by
    simp only [contig] at hc
    split at hc
    · rename_i ho
      simp only [List.all_cons, Bool.and_eq_true] at hp
      obtain ⟨h1, ps, h2, h3⟩ := read_fields d n cs ih fs _ q hc hq hp.2 (fun g hg => hx g (List.mem_cons_of_mem _ hg))
      obtain ⟨x, hx1, hx2⟩ := hx f (List.mem_cons_self ..)
      obtain ⟨xs, g1, g2⟩ := ih _ _ _ hp.1 hx1 hx2
      refine ⟨by omega, xs :: ps, ⟨g1, h2⟩, ?_⟩
      have e : (cs.drop o).take (q - o) = (cs.drop f.offset).take (P.cellsOf f.type) ++ (cs.drop (o + P.cellsOf f.type)).take (q - (o + P.cellsOf f.type)) := by
        rw [ho, show q - o = P.cellsOf f.type + (q - (o + P.cellsOf f.type)) by omega, List.take_add, List.drop_drop]
      rw [e, List.flatten_cons]
      exact g2.append h3
    · cases hc

theorem read_parts (d z : Nat) (cs : List Value) (F : Nat → List T → Prop) : ∀ (n k : Nat), (∀ i, i < n → ∃ xs, F i xs ∧ Reps w ((cs.drop ((k + i) * z)).take z) xs) → (k + n) * z ≤ cs.length →
    ∃ ps : List (List T), ps.length = n ∧ (∀ i p, ps[i]? = some p → F i p) ∧ Reps w ((cs.drop (k * z)).take (n * z)) ps.flatten
  | 0, k, _, _ => ⟨[], rfl, by simp, by simp; exact Reps.nil⟩
  | n + 1, k, h, hl => by
    obtain ⟨xs, h1, h2⟩ := h 0 (by omega)
    obtain ⟨ps, g1, g2, g3⟩ := read_parts d z cs (fun i => F (i + 1)) n (k + 1) (fun i hi => by
      obtain ⟨ys, e1, e2⟩ := h (i + 1) (by omega)
      exact ⟨ys, e1, by rw [show k + 1 + i = k + (i + 1) by omega]; exact e2⟩) (by rw [show k + 1 + n = k + (n + 1) by omega]; exact hl)
    refine ⟨xs :: ps, by simp [g1], fun i p hp => ?_, ?_⟩
    · cases i with
      | zero => simp at hp; subst hp; exact h1
      | succ i => exact g2 i p (by simpa using hp)
    · have e : (cs.drop (k * z)).take ((n + 1) * z) = (cs.drop ((k + 0) * z)).take z ++ (cs.drop ((k + 1) * z)).take (n * z) := by
        rw [show k + 0 = k from rfl, show (n + 1) * z = z + n * z by rw [Nat.add_mul]; omega, List.take_add, List.drop_drop, show k * z + z = (k + 1) * z by rw [Nat.add_mul]; omega]
      rw [e, List.flatten_cons]
      exact h2.append g3

theorem read : ∀ (d n : Nat) (t : TypeId) (cs : List Value) (x : DataW H × List MemPlace), plainTy P d t = true → DataW.trod enc P w 0 sp hd n t cs = some x → (∀ k ∈ x.1.weights P t, k ≤ reachBytes) → ∃ xs, Fits P d t xs ∧ Reps w cs xs
  | 0, _, _, _, _, hp, _, _ => by simp [plainTy] at hp
  | d + 1, n, t, cs, x, hp, hx, hwt => by
    simp only [plainTy] at hp
    unfold Fits
    cases hu : P.underlying t with
    | none => rw [hu] at hp; cases hp
    | some td =>
      rw [hu] at hp
      try simp only at hp ⊢
      cases td <;> simp only [Bool.false_eq_true] at hp
      case bool =>
        obtain ⟨b, rfl, _⟩ := DataW.trod_bool hu hx
        exact ⟨_, ⟨b, rfl⟩, Reps.one (.b b)⟩
      case int k =>
        obtain ⟨m, rfl, _, hw⟩ := DataW.trod_int hu hx
        simp only [Lit.wf, Bool.and_eq_true, decide_eq_true_eq] at hw
        exact ⟨_, ⟨m, rfl, hw⟩, Reps.one (.i k m)⟩
      case string =>
        obtain ⟨s, rfl, _⟩ := DataW.trod_string hu hx
        exact ⟨_, ⟨s, rfl⟩, Reps.one (.s s)⟩
      case slice e =>
        simp only [Bool.and_eq_true, decide_eq_true_eq] at hp
        obtain ⟨⟨hp0, hpb⟩, hp⟩ := hp
        rcases DataW.trod_slice hu hx with ⟨rfl, _⟩ | ⟨a, len, cap, elems, rest, m, rfl, rfl, rfl, _, hlc, hcm, rfl, hget, _, _⟩
        · exact ⟨_, ⟨[], rfl, by simp, by simp⟩, Reps.one (Rep.nilslice _)⟩
        · have hall : ∀ i, i < elems.length → ∃ vs xs, w.cells? 0 (a.add (i * P.cellsOf e)) (P.cellsOf e) = some vs ∧ Fits P d e xs ∧ Reps w vs xs := fun i hi => by
            have h1 := hget i hi
            have hlt : i < elems.length := hi
            rw [List.getElem?_eq_getElem hlt] at h1
            simp only [Option.bind_eq_some_iff] at h1
            obtain ⟨vs, h2, h3⟩ := h1
            obtain ⟨xs, h4, h5⟩ := read d m e vs _ hp h3 (fun k hk => hwt k (by rw [weights_slice _ _ hu]; exact List.mem_cons_of_mem _ (List.mem_append_left _ (weightsAll_mem (List.mem_map_of_mem (List.getElem_mem hlt)) k hk))))
            exact ⟨vs, xs, h2, h4, h5⟩
          have hch : ∃ f : Nat → List Value × List T, ∀ i, i < elems.length → w.cells? 0 (a.add (i * P.cellsOf e)) (P.cellsOf e) = some (f i).1 ∧ Fits P d e (f i).2 ∧ Reps w (f i).1 (f i).2 := by
            refine ⟨fun i => if h : i < elems.length then (Classical.choose (hall i h), Classical.choose (Classical.choose_spec (hall i h))) else ([], []), fun i hi => ?_⟩
            simp only [dif_pos hi]
            exact Classical.choose_spec (Classical.choose_spec (hall i hi))
          obtain ⟨f, hf⟩ := hch
          have hr : elems.length ≤ room := by
            have h1 := hwt _ (by rw [weights_slice _ _ hu]; exact List.mem_cons_self ..)
            rw [List.length_map] at h1
            have h2 := Nat.le_mul_of_pos_right (elems.length + (rest.map (·.1)).length) hpb
            unfold reachBytes at h1
            unfold room
            omega
          refine ⟨_, ⟨(List.range elems.length).map fun i => (f i).2, rfl, by rw [List.length_map, List.length_range]; exact hr, fun y hy => ?_⟩, Reps.one ?_⟩
          · simp only [List.mem_map, List.mem_range] at hy
            obtain ⟨i, hi, rfl⟩ := hy
            exact (hf i hi).2.1
          · have hgetr : ∀ (i : Nat) (y : List T), ((List.range elems.length).map fun i => (f i).2)[i]? = some y → i < elems.length ∧ y = (f i).2 := fun i y hy => by
              rw [List.getElem?_map] at hy
              simp only [Option.map_eq_some_iff] at hy
              obtain ⟨j, hj, rfl⟩ := hy
              obtain ⟨hlt, rfl⟩ := List.getElem?_eq_some_iff.1 hj
              simp at hlt
              simp [hlt]
            have hlens : ∀ i, i < elems.length → (f i).1.length = P.cellsOf e ∧ (f i).2.length = P.cellsOf e := fun i hi => by
              obtain ⟨h1, h2, h3⟩ := hf i hi
              have := (cells_get h1).1
              exact ⟨this, by rw [h3.1]; exact this⟩
            refine .sl (some a) _ cap _ (P.cellsOf e) (fun i j => ((f i).1[j]?).getD undef) (by simp) hlc hr (fun e => by cases e) (fun i y hy => ?_) (fun h0 => ⟨a, rfl, ?_, fun i j hi hj => ?_⟩) (fun i j y z hy hz => ?_)
            · obtain ⟨hi, rfl⟩ := hgetr i y hy
              exact (hlens i hi).2
            · obtain ⟨h1, _, _⟩ := hf 0 h0
              obtain ⟨h2, h3⟩ := cells_get h1
              have := h3 0 _ (List.getElem?_eq_getElem (by omega))
              have := cells_lt this
              rwa [block_add, block_add] at this
            · obtain ⟨h1, _, _⟩ := hf i hi
              obtain ⟨h2, h3⟩ := cells_get h1
              have hlt : j < (f i).1.length := by omega
              have := h3 j _ (List.getElem?_eq_getElem hlt)
              rw [add_add'] at this
              rw [this, List.getElem?_eq_getElem hlt]
              rfl
            · obtain ⟨hi, rfl⟩ := hgetr i y hy
              obtain ⟨h1, _, h3⟩ := hf i hi
              have hlt : j < (f i).1.length := by rw [(hlens i hi).1, ← (hlens i hi).2]; exact (List.getElem?_eq_some_iff.1 hz).1
              rw [List.getElem?_eq_getElem hlt]
              exact h3.2 j _ z (List.getElem?_eq_getElem hlt) hz
      case struct fs =>
        simp only [Bool.and_eq_true, decide_eq_true_eq] at hp
        obtain ⟨xs, m, rfl, rfl, hl, hlen, hf⟩ := DataW.trod_struct hu hx
        obtain ⟨_, ps, h1, h2⟩ := read_fields d m cs (fun t cs x hp hx hw => read d m t cs x hp hx hw) fs.toList 0 _ hp.1 (by omega) hp.2 (fun f hfm => by
          obtain ⟨i, hi⟩ := List.getElem?_of_mem hfm
          have := hf i f (by simpa using hi)
          have hlt : i < xs.length := by
            have := (List.getElem?_eq_some_iff.1 hi).1
            simp at this; omega
          refine ⟨_, this.trans (List.getElem?_eq_getElem hlt), fun k hk => hwt k ?_⟩
          rw [weights_struct _ hu]
          exact DataW.weights_mem_each (j := i) (t := f.type) (d := xs[i].1) (by rw [List.getElem?_map, hi]; rfl) (by rw [List.getElem?_map, List.getElem?_eq_getElem hlt]; rfl) k hk)
        exact ⟨_, ⟨ps, rfl, h1⟩, by simpa [← hl] using h2⟩
      case array k e =>
        simp only [Bool.and_eq_true, decide_eq_true_eq] at hp
        obtain ⟨xs, m, rfl, rfl, hl, hlen, hf⟩ := DataW.trod_array hu hx
        obtain ⟨ps, h1, h2, h3⟩ := read_parts (w := w) d (P.cellsOf e) cs (fun _ => Fits P d e) k 0 (fun i hi => by
          have := hf i hi
          obtain ⟨ys, g1, g2⟩ := read d m e _ _ hp.2 (this.trans (List.getElem?_eq_getElem (show i < xs.length by omega))) (fun k' hk' => hwt k' (by rw [weights_array _ hu]; exact weightsAll_mem (List.mem_map_of_mem (List.getElem_mem _)) k' hk'))
          exact ⟨ys, g1, by rw [Nat.zero_add]; exact g2⟩) (by rw [Nat.zero_add]; omega)
        refine ⟨_, ⟨ps, rfl, h1, fun p hp => ?_⟩, ?_⟩
        · obtain ⟨i, hi⟩ := List.getElem?_of_mem hp
          exact h2 i p hi
        · have : k * P.cellsOf e = cs.length := by omega
          rw [Nat.zero_mul, List.drop_zero, this, List.take_length] at h3
          exact h3

/-- An argument's tree. -/
def ArgFits (P : Program) (d : Nat) (t : TypeId) (x : T) : Prop :=
  match P.underlying t with
  | some (.struct _) | some (.array _ _) => ∃ xs, x = .agg xs ∧ Fits P d t xs
  | _ => Fits P d t [x]

theorem fits_one {d : Nat} {t : TypeId} {xs : List T} (h : Fits P d t xs) (hn : match P.underlying t with | some (.struct _) | some (.array _ _) => False | _ => True) : ∃ x, xs = [x] := by
  cases d with
  | zero => cases h
  | succ d =>
    unfold Fits at h
    cases hu : P.underlying t with
    | none => rw [hu] at h; exact h.elim
    | some td =>
      rw [hu] at h hn
      cases td <;> simp only at h hn <;> first | exact h.elim | exact hn.elim | (obtain ⟨b, rfl⟩ := h; exact ⟨_, rfl⟩) | (obtain ⟨b, rfl, _⟩ := h; exact ⟨_, rfl⟩)

theorem read_arg {r : Reach} {b0 d : Nat} {t : TypeId} {v : Value} {x : DataW H} {ps : List MemPlace} (hp : plainTy P d t = true) (hval : Value.okWide P w r b0 t v) (h : DataW.Trod enc P w 0 sp hd t v x ps) (hwt : ∀ k ∈ x.weights P t, k ≤ reachBytes) :
    ∃ y, ArgFits P d t y ∧ Rep w (fun b => b < w.heap.size) v y := by
  obtain ⟨n, hn⟩ := h
  obtain ⟨xs, h1, h2⟩ := read d n t _ _ hp hn hwt
  have agg : ∀ cs : Array Value, v = .agg cs → ∃ xs', Fits P d t xs' ∧ Rep w (fun b => b < w.heap.size) v (.agg xs') := fun cs e => by
    subst e
    refine ⟨xs, h1, .agg cs xs (by simpa [Value.cells] using h2.1.symm) fun j u y hu hy => h2.2 j u y (by simpa [Value.cells] using hu) hy⟩
  have one : (match P.underlying t with | some (.struct _) | some (.array _ _) => False | _ => True) → (∀ cs, v ≠ .agg cs) → ∃ y, Fits P d t [y] ∧ Rep w (fun b => b < w.heap.size) v y := fun hu hv => by
    obtain ⟨y, rfl⟩ := fits_one h1 hu
    refine ⟨y, h1, h2.2 0 v y ?_ rfl⟩
    cases v <;> first | rfl | exact (hv _ rfl).elim
  unfold ArgFits
  cases hu : P.underlying t with
  | none =>
    cases d with
    | zero => simp [plainTy] at hp
    | succ d => simp [plainTy, hu] at hp
  | some td =>
    have key : ∀ cs, v = .agg cs → Value.okWide P w r b0 t (.agg cs) := fun cs e => e ▸ hval
    cases td
    case struct fs =>
      have := hval
      simp only [Value.okWide, hu] at this
      obtain ⟨cs, hcs, _⟩ := this
      obtain ⟨xs', g1, g2⟩ := agg cs hcs
      exact ⟨_, ⟨xs', rfl, g1⟩, g2⟩
    case array k e =>
      have := hval
      simp only [Value.okWide, hu] at this
      obtain ⟨cs, hcs, _⟩ := this
      obtain ⟨xs', g1, g2⟩ := agg cs hcs
      exact ⟨_, ⟨xs', rfl, g1⟩, g2⟩
    all_goals first
      | (exfalso; cases d with
          | zero => simp [plainTy] at hp
          | succ d => simp [plainTy, hu] at hp; done)
      | exact one (by rw [hu]; trivial) (fun cs e => by have := key cs e; simp [Value.okWide, hu, Cell.okWide, Cell.ok] at this)

theorem read_args {r : Reach} {b0 d : Nat} : ∀ {ts : List TypeId} {vs : List Value} {ds : List (DataW H)} {ps : List MemPlace}, DataW.TrodAll enc P w 0 sp hd ts vs ds ps → (∀ (j : Nat) t v, ts[j]? = some t → vs[j]? = some v → Value.okWide P w r b0 t v) →
    (ts.all (plainTy P d)) = true → (∀ k ∈ DataW.weightsEach P ts ds, k ≤ reachBytes) → ∃ xs : List T, All2 (ArgFits P d) ts xs ∧ xs.length = vs.length ∧ ∀ (j : Nat) (v : Value) (x : T), vs[j]? = some v → xs[j]? = some x → Rep w (fun b => b < w.heap.size) v x
  | [], vs, ds, ps, h, _, _, _ => by
    obtain ⟨rfl, rfl, rfl⟩ := trodAll_nil h
    exact ⟨[], trivial, rfl, by simp⟩
  | t :: ts, vs, ds, ps, h, hval, hp, hwt => by
    obtain ⟨v, vs, x, ds, p, q, rfl, rfl, rfl, h1, h2⟩ := trodAll_cons h
    simp only [List.all_cons, Bool.and_eq_true] at hp
    obtain ⟨y, g1, g2⟩ := read_arg hp.1 (hval 0 t v rfl rfl) h1 (fun k hk => hwt k (by simp [DataW.weightsEach, hk]))
    obtain ⟨xs, e1, e2, e3⟩ := read_args h2 (fun j t' v' ht hv => hval (j + 1) t' v' (by simpa using ht) (by simpa using hv)) hp.2 (fun k hk => hwt k (by simp [DataW.weightsEach, hk]))
    refine ⟨y :: xs, ⟨g1, e1⟩, by simp [e2], fun j u z hu hz => ?_⟩
    cases j with
    | zero => simp at hu hz; subst hu; subst hz; exact g2
    | succ j => exact e3 j u z (by simpa using hu) (by simpa using hz)

theorem args_stay {W W' : World} (hl : laidOutB P = true) (hb : RowKit.Below W.heap.size W W') : ∀ {ts : List TypeId} {vs : List Value} {ds : List (DataW H)} {ps : List MemPlace}, DataW.TrodAll enc P W 0 (fun _ => true) true ts vs ds ps → (ts.all fun t => P.readableRec t && decide (t < P.types.size)) = true →
    (∀ x ∈ ps, x.block < W.heap.size) → DataW.TrodAll enc P W' 0 (fun b => decide (b < W.heap.size)) true ts vs ds ps
  | [], vs, ds, ps, h, _, _ => by
    obtain ⟨rfl, rfl, rfl⟩ := trodAll_nil h
    exact trodAll_mk0
  | t :: ts, vs, ds, ps, h, hr, hlt => by
    obtain ⟨v, vs, x, ds, p, q, rfl, rfl, rfl, h1, h2⟩ := trodAll_cons h
    simp only [List.all_cons, Bool.and_eq_true, decide_eq_true_eq] at hr
    exact trodAll_cons_mk (RowKit.Below.trod hl hr.1.1 hr.1.2 h1 hb (fun x hx => hlt x (by simp [hx]))) (args_stay hl hb h2 hr.2 (fun x hx => hlt x (by simp [hx])))
end

theorem law_of {C : Checked} {os : Os} {f : FuncId} {fn : Func} {s : ChangeSpec} {d : Nat} (H : Type) (enc : TypeId × Value → H) (own : ownKnob C.prog.godebug = none) (started : os.Started) (noInit : C.prog.inits.idxOf? f = none) (hfn : C.prog.funcs[f]? = some fn)
    (witness : ∃ (w : World) (tape : Tape) (i : Input), w.os = os ∧ (w.forCall tape i).Shaped C.prog ∧ i.vars = [] ∧ Input.okWide C.prog (w.forCall tape i) .any w.heap.size f i ∧
      s.pre6 enc C.prog fn [] false (w.forCall tape i).memory i.args ∧ ({} : Assume).holds C.prog (lone (Frame.enter C.prog f i.args .normal) [] (w.forCall tape i)))
    (hvars : s.vars = []) {tb : TypeId} (hrt : fn.resultTypes = #[tb]) (htb : C.prog.underlying tb = some .bool) (hp : (fn.params.toList.all (plainTy C.prog d)) = true)
    (hl : laidOutB C.prog = true) (hr : (fn.params.toList.all fun t => C.prog.readableRec t && decide (t < C.prog.types.size)) = true)
    (hs : ∀ ds : List (DataW H), ds.length = fn.params.size → s.fn H ds = { results := [.lit (.bool true)], args := ds })
    (spec : ∀ xs, All2 (ArgFits C.prog d) fn.params.toList xs → Spec C.prog f xs [] (.t (.b true) true)) :
    ReturnsInHanded {} C os f .any (s.pre6 enc C.prog fn [] false) (s.post enc C.prog fn false true false false) := by
  refine returnsInHanded_of_change_sized own started noInit hfn witness fun W base args ds gs before hval hW _ hsz _ => ?_
  have hW' := hW
  obtain ⟨p, q, hA, hV, rfl, hfz, hnd⟩ := hW
  rw [hvars] at hV
  obtain ⟨rfl, rfl⟩ := trodVars_none hV
  have hpl : s.plain.varTypes C.prog = [] := by
    simp [DataSpec.varTypes, ChangeSpec.plain, hvars]
  rw [hpl, List.append_nil, List.append_nil, List.all_eq_true] at hsz
  obtain ⟨hvl, hdl⟩ := trodAll_length hA
  obtain ⟨xs, h1, h2, h3⟩ := read_args (d := d) hA (fun j t v ht hv => hval j t v (by simpa using ht) (by simpa using hv)) hp (fun k hk => by simpa using hsz k hk)
  refine ((spec xs h1).run W (fun b => b < W.heap.size) args (fun _ h => h) (by simp at h2; omega) (fun j v x hv hx => h3 j v x (by simpa using hv) hx)).mono fun e W' he => ?_
  cases e with
  | panicked _ => exact he.elim
  | outgrown => exact he.elim
  | returned v =>
    obtain ⟨m, hM, hv⟩ := he
    refine ⟨v, rfl, ?_⟩
    obtain rfl : v = .bool true := by
      cases hv with
      | t _ _ _ hr => cases hr; rfl
    have hB := hM.below
    simp only at hB
    have hlt : ∀ x ∈ p, x.block < W.heap.size := fun x hx => hW'.lt x (by simp [hx])
    refine ⟨ds, [], p ++ [], [], p, [], hW', ?_, ?_, ?_, ?_, fun h => by cases h⟩
    · rw [List.append_nil, hs ds (by simpa using hdl), hrt]
      exact trodAll_mk1 (shut_bool htb true)
    · rw [List.append_nil, hs ds (by simpa using hdl)]
      exact args_stay hl hB hA hr hlt
    · rw [List.append_nil, hs ds (by simpa using hdl), hvars]
      exact rfl
    · exact RowKit.Below.frame hB _
end Go.Proofs.Ytadnjellfiafaaa.Pm
