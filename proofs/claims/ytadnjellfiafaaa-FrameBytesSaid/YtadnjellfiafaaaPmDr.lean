/- The abstract machine: a statement whose order Go leaves open: one walk in the order of the text serves every order. No law of Go's is stated here. -/
import Derived.Test.YtadnjellfiafaaaPmFt
import Derived.Orders
set_option linter.all false
namespace Go.Proofs.Ytadnjellfiafaaa.Pm
open Go Go.RowKit

/-- What an operation of the walk in the text's order came to: what it leaves in its slot, which blocks it turned. -/
structure Rc where
  v : Option AV
  us : List (Nat × Blk)
  sk : Bool
def stepS (d : Option Nat) (ρ : Rc) (s : S) : S := ⟨pt s.tm d ρ.v, upds s.hp ρ.us⟩

/-- What the walk shows of one operation. -/
inductive Fact (x : Cx) (o : I) (s : S) : Rc → Prop
  | wr (p : Prop) (v : Option AV) (id : Nat) (b : Blk) (h1 : isSt o.op = true) (h2 : o.g = none) (h3 : qw x.ti s.tm (lk s.hp) o.d o.op = some (p, v, id, b)) (h4 : p) : Fact x o s ⟨v, [(id, b)], false⟩
  | ran (v : AV) (us : List (Nat × Blk)) (h1 : o.g = none ∨ ∃ t want l, o.g = some (t, want) ∧ gt s.tm t = some (.t (.b want) l)) (h2 : yields x s.tm (lk s.hp) s.hp.length o.op v us) : Fact x o s ⟨some v, us, false⟩
  | skip (t : Nat) (want l : Bool) (h1 : o.g = some (t, want)) (h2 : gt s.tm t = some (.t (.b (!want)) l) ∨ gt s.tm t = some (.tup [])) : Fact x o s ⟨some (.tup []), [], true⟩

theorem set_upds {hp : List Blk} {id : Nat} {b : Blk} (h : (lk hp id).isSome = true) : hp.set id b = upds hp [(id, b)] := by
  obtain ⟨b0, hb⟩ := Option.isSome_iff_exists.1 h
  simp only [upds, upd1, if_pos (lk_lt hb)]

theorem lex_of {x : Cx} {K : S → Prop} : ∀ (l : List D) (k : Nat) (lg : Lg) (s : S), wdraw x l k lg s K →
    ∃ (tr : Nat → Rc) (st : Nat → S) (lgs : Nat → Lg), st 0 = s ∧ lgs 0 = lg ∧ K (st l.length) ∧ ∀ i o, l[i]? = some o → Fact x o.i (st i) (tr i) ∧ st (i + 1) = stepS o.i.d (tr i) (st i) ∧
      (((tr i).us = [] ∧ (tr i).sk = true) ∧ lgs (i + 1) = lgs i ∨ free o.na (foot (st i).tm o.i.op) (fsts (tr i).us) (lgs i) = true ∧ lgs (i + 1) = (k + i, fsts (tr i).us, foot (st i).tm o.i.op) :: lgs i)
  | [], k, lg, s, h => ⟨fun _ => ⟨none, [], true⟩, fun _ => s, fun _ => lg, rfl, rfl, h, by simp⟩
  | o :: r, k, lg, s, h => by
    have cons : ∀ (ρ : Rc) (lg' : Lg), Fact x o.i s ρ → ((ρ.us = [] ∧ ρ.sk = true) ∧ lg' = lg ∨ free o.na (foot s.tm o.i.op) (fsts ρ.us) lg = true ∧ lg' = (k, fsts ρ.us, foot s.tm o.i.op) :: lg) → wdraw x r (k + 1) lg' (stepS o.i.d ρ s) K →
        ∃ (tr : Nat → Rc) (st : Nat → S) (lgs : Nat → Lg), st 0 = s ∧ lgs 0 = lg ∧ K (st (o :: r).length) ∧ ∀ i o', (o :: r)[i]? = some o' → Fact x o'.i (st i) (tr i) ∧ st (i + 1) = stepS o'.i.d (tr i) (st i) ∧
          (((tr i).us = [] ∧ (tr i).sk = true) ∧ lgs (i + 1) = lgs i ∨ free o'.na (foot (st i).tm o'.i.op) (fsts (tr i).us) (lgs i) = true ∧ lgs (i + 1) = (k + i, fsts (tr i).us, foot (st i).tm o'.i.op) :: lgs i) := by
      intro ρ lg' hf hlg hr
      obtain ⟨tr, st, lgs, h1, h2, h3, h4⟩ := lex_of r (k + 1) lg' _ hr
      refine ⟨fun i => match i with | 0 => ρ | i + 1 => tr i, fun i => match i with | 0 => s | i + 1 => st i, fun i => match i with | 0 => lg | i + 1 => lgs i, rfl, rfl, h3, fun i o' ho => ?_⟩
      cases i with
      | zero =>
        simp only [List.getElem?_cons_zero, Option.some.injEq] at ho
        subst ho
        refine ⟨hf, h1, ?_⟩
        simp only [h2, Nat.add_zero]
        exact hlg
      | succ i =>
        obtain ⟨g1, g2, g3⟩ := h4 i o' (by simpa using ho)
        refine ⟨g1, g2, ?_⟩
        simp only
        rw [show k + (i + 1) = k + 1 + i by omega]
        exact g3
    unfold wdraw at h
    cases hst : isSt o.i.op with
    | true =>
      rw [hst] at h
      simp only at h
      split at h <;> try exact h.elim
      rename_i p v id b hg hq
      refine cons ⟨v, [(id, b)], false⟩ _ (.wr p v id b hst hg hq h.1) (.inr ⟨h.2.1, rfl⟩) ?_
      unfold stepS
      rw [← set_upds (qw_some hq)]
      exact h.2.2
    | false =>
      rw [hst] at h
      simp only at h
      split at h
      · rename_i hg
        obtain ⟨v, us, hy, hu, hr⟩ := yields_of h
        exact cons ⟨some v, us, false⟩ _ (.ran v us (.inl hg) hy) (.inr ⟨hu, rfl⟩) hr
      · rename_i t want hg
        split at h <;> try exact h.elim
        rotate_left
        · rename_i hy
          exact cons ⟨some (.tup []), [], true⟩ lg (.skip t want true hg (.inr hy)) (.inl ⟨⟨rfl, rfl⟩, rfl⟩) h
        rename_i y lb hy
        by_cases hw : y = want
        · subst hw
          obtain ⟨v, us, hy', hu, hr⟩ := yields_of (h.1 (by simp))
          exact cons ⟨some v, us, false⟩ _ (.ran v us (.inr ⟨t, y, lb, hg, hy⟩) hy') (.inr ⟨hu, rfl⟩) hr
        · have hne : (y == want) = false := by simpa using hw
          have hv : y = !want := by cases y <;> cases want <;> simp_all
          exact cons ⟨some (.tup []), [], true⟩ lg (.skip t want lb hg (.inl (by rw [hy, hv]))) (.inl ⟨⟨rfl, rfl⟩, rfl⟩) (h.2 hne)

/-! ### What waits for what -/
theorem befs_get : ∀ (l : List Oper) (acc : List (List Nat)), (befs l acc).take acc.length = acc ∧ (befs l acc).length = acc.length + l.length ∧ ∀ (j : Nat) (o : Oper), l[j]? = some o →
    (befs l acc).getD (acc.length + j) [] = (o.after.toList.filter (Region.binds .any)).map (·.on) ++ ((o.after.toList.filter (Region.binds .any)).map (·.on)).flatMap fun d => ((befs l acc).take (acc.length + j)).getD d []
  | [], acc => by simp [befs]
  | o :: l, acc => by
    simp only [befs]
    obtain ⟨h1, h2, h3⟩ := befs_get l (acc ++ [(o.after.toList.filter (Region.binds .any)).map (·.on) ++ ((o.after.toList.filter (Region.binds .any)).map (·.on)).flatMap fun d => acc.getD d []])
    generalize hr : befs l (acc ++ [(o.after.toList.filter (Region.binds .any)).map (·.on) ++ ((o.after.toList.filter (Region.binds .any)).map (·.on)).flatMap fun d => acc.getD d []]) = R at *
    have h1' : R.take acc.length = acc := by
      have := congrArg (List.take acc.length) h1
      rw [List.take_take] at this
      simpa using this
    refine ⟨h1', by rw [h2]; simp; omega, fun j o' ho => ?_⟩
    cases j with
    | zero =>
      simp only [List.getElem?_cons_zero, Option.some.injEq] at ho
      subst ho
      rw [Nat.add_zero, h1']
      have h5 : R[acc.length]? = some ((o.after.toList.filter (Region.binds .any)).map (·.on) ++ ((o.after.toList.filter (Region.binds .any)).map (·.on)).flatMap fun d => acc.getD d []) := by
        have h4 : (R.take (acc.length + 1))[acc.length]? = R[acc.length]? := List.getElem?_take_of_lt (by omega)
        rw [← h4]
        have h6 := h1
        rw [List.length_append, List.length_singleton] at h6
        rw [h6]
        simp
      rw [List.getD_eq_getElem?_getD, h5]
      rfl
    | succ j =>
      have := h3 j o' (by simpa using ho)
      rw [List.length_append, List.length_singleton] at this
      rw [show acc.length + (j + 1) = acc.length + 1 + j by omega]
      exact this

theorem flatMap_same {α β : Type} {f g : α → List β} : ∀ {l : List α}, (∀ d ∈ l, f d = g d) → l.flatMap f = l.flatMap g
  | [], _ => rfl
  | a :: l, h => by
    rw [List.flatMap_cons, List.flatMap_cons, h a (List.mem_cons_self ..), flatMap_same fun d hd => h d (List.mem_cons_of_mem _ hd)]

/-- A statement as it is looked at: its operations, and of each what it waits for. -/
structure Rg (ops : Array Oper) (bs : Nat → List Nat) : Prop where
  dep : ∀ (j : Nat) (o : Oper), ops[j]? = some o → ∀ e ∈ o.after, Region.binds .any e = true → e.on < j ∧ e.on ∈ bs j
  bsd : ∀ (j : Nat) (o : Oper), ops[j]? = some o → ∀ i ∈ bs j, ∃ e ∈ o.after, Region.binds .any e = true ∧ (i = e.on ∨ i ∈ bs e.on)
  sub : ∀ (j : Nat) (o : Oper), ops[j]? = some o → ∀ e ∈ o.after, Region.binds .any e = true → ∀ k ∈ bs e.on, k ∈ bs j
  grd : ∀ (j : Nat) (o : Oper) (g : Nat) (want : Bool), ops[j]? = some o → o.guard = some (g, want) → g ∈ bs j
  sel : ∀ (j : Nat) (o : Oper), ops[j]? = some o → isSel o.op = false
  ap : ∀ (j i : Nat) (o p : Oper), ops[j]? = some o → ops[i]? = some p → i < j → i ∉ bs j → apart ops.toList p o = true

theorem rg_of {ops : Array Oper} (h : drawOK ops.toList = true) : Rg ops (fun j => (befs ops.toList []).getD j []) := by
  unfold drawOK at h
  simp only [List.all_eq_true, List.mem_range] at h
  have at' : ∀ (j : Nat) (o : Oper), ops[j]? = some o → drawAt ops.toList (befs ops.toList []) ops.toList.length j o = true := fun j o ho => by
    have hj : j < ops.toList.length := by have := (Array.getElem?_eq_some_iff.1 ho).1; simpa using this
    have := h j hj
    rw [show ops.toList[j]? = some o by simpa using ho] at this
    exact this
  have parts : ∀ (j : Nat) (o : Oper), ops[j]? = some o → isSel o.op = false ∧ (∀ e ∈ o.after, Region.binds .any e = true → e.on < j) ∧ (∀ g want, o.guard = some (g, want) → g ∈ (befs ops.toList []).getD j []) ∧
      ∀ i p, ops[i]? = some p → i < j → i ∉ (befs ops.toList []).getD j [] → apart ops.toList p o = true := fun j o ho => by
    have := at' j o ho
    unfold drawAt at this
    simp only [Bool.and_eq_true, Bool.not_eq_true', List.all_eq_true, decide_eq_true_eq, List.mem_filter, List.mem_range, Array.mem_toList_iff] at this
    obtain ⟨⟨⟨h1, h2⟩, h3⟩, h4⟩ := this
    refine ⟨h1, fun e he hb => h2 e ⟨he, hb⟩, fun g want hg => ?_, fun i p hp hij hni => ?_⟩
    · rw [hg] at h3
      simpa using h3
    · have hi : i < ops.toList.length := by have := (Array.getElem?_eq_some_iff.1 hp).1; simpa using this
      have h5 := h4 i hi
      rw [if_pos hij, show ops.toList[i]? = some p by simpa using hp] at h5
      simp only [Bool.or_eq_true, Bool.and_eq_true, Bool.not_eq_true', List.contains_iff_mem] at h5
      exact h5.resolve_left hni
  obtain ⟨_, hlen, hget⟩ := befs_get ops.toList []
  have get : ∀ (j : Nat) (o : Oper), ops[j]? = some o → (befs ops.toList []).getD j [] = (o.after.toList.filter (Region.binds .any)).map (·.on) ++ ((o.after.toList.filter (Region.binds .any)).map (·.on)).flatMap fun d => (befs ops.toList []).getD d [] := fun j o ho => by
    have := hget j o (by simpa using ho)
    simp only [List.length_nil, Nat.zero_add] at this
    rw [this]
    congr 1
    refine flatMap_same fun d hd => ?_
    simp only [List.mem_map, List.mem_filter, Array.mem_toList_iff] at hd
    obtain ⟨e, ⟨he, hb⟩, rfl⟩ := hd
    have hlt := (parts j o ho).2.1 e he hb
    rw [List.getD_eq_getElem?_getD, List.getD_eq_getElem?_getD, List.getElem?_take_of_lt hlt]
  refine ⟨fun j o ho e he hb => ⟨(parts j o ho).2.1 e he hb, ?_⟩, fun j o ho i hi => ?_, fun j o ho e he hb k hk => ?_, fun j o g want ho hg => (parts j o ho).2.2.1 g want hg, fun j o ho => (parts j o ho).1, fun j i o p ho hp hij hni => (parts j o ho).2.2.2 i p hp hij hni⟩
  · show _ ∈ (befs ops.toList []).getD j []
    rw [get j o ho]
    exact List.mem_append_left _ (List.mem_map.2 ⟨e, by simp [he, hb], rfl⟩)
  · replace hi : i ∈ (befs ops.toList []).getD j [] := hi
    rw [get j o ho] at hi
    rcases List.mem_append.1 hi with hi | hi
    · simp only [List.mem_map, List.mem_filter, Array.mem_toList_iff] at hi
      obtain ⟨e, ⟨he, hb⟩, rfl⟩ := hi
      exact ⟨e, he, hb, .inl rfl⟩
    · simp only [List.mem_flatMap, List.mem_map, List.mem_filter, Array.mem_toList_iff] at hi
      obtain ⟨d, ⟨e, ⟨he, hb⟩, rfl⟩, hi⟩ := hi
      exact ⟨e, he, hb, .inr hi⟩

  · show k ∈ (befs ops.toList []).getD j []
    rw [get j o ho]
    refine List.mem_append_right _ (List.mem_flatMap.2 ⟨e.on, List.mem_map.2 ⟨e, by simp [he, hb], rfl⟩, hk⟩)

theorem Rg.lt {ops : Array Oper} {bs : Nat → List Nat} (R : Rg ops bs) : ∀ (j : Nat) (o : Oper), ops[j]? = some o → ∀ i ∈ bs j, i < j := by
  intro j
  induction j using Nat.strongRecOn with
  | ind j ih =>
    intro o ho i hi
    obtain ⟨e, he, hb, h⟩ := R.bsd j o ho i hi
    have hlt := (R.dep j o ho e he hb).1
    rcases h with rfl | h
    · exact hlt
    · have hj := (Array.getElem?_eq_some_iff.1 ho).1
      have hel : e.on < ops.size := by omega
      exact Nat.lt_trans (ih e.on hlt ops[e.on] (by simp [hel]) i h) hlt
/-- What one waits for waits along. -/
theorem Rg.trans {ops : Array Oper} {bs : Nat → List Nat} (R : Rg ops bs) : ∀ (j : Nat) (o : Oper), ops[j]? = some o → ∀ s ∈ bs j, ∀ i ∈ bs s, i ∈ bs j := by
  intro j
  induction j using Nat.strongRecOn with
  | ind j ih =>
    intro o ho s hs i hi
    have sub := R.sub j o ho
    obtain ⟨e, he, hb, h⟩ := R.bsd j o ho s hs
    have hlt := (R.dep j o ho e he hb).1
    have hj := (Array.getElem?_eq_some_iff.1 ho).1
    have hel : e.on < ops.size := by omega
    rcases h with rfl | h
    · exact sub e he hb i hi
    · exact sub e he hb i (ih e.on hlt ops[e.on] (by simp [hel]) s h i hi)

/-! ### The blocks' numbers -/
theorem upds_length : ∀ (us : List (Nat × Blk)) (hp : List Blk), fits hp.length us → hp.length ≤ (upds hp us).length ∧ (∀ i, i < (upds hp us).length → i < hp.length ∨ ∃ u ∈ us, u.1 = i) ∧ ∀ u ∈ us, u.1 < (upds hp us).length
  | [], hp, _ => ⟨Nat.le_refl _, fun i hi => .inl hi, fun u hu => by cases hu⟩
  | u :: us, hp, hf => by
    obtain ⟨g1, g2⟩ := lk_upd1 hp u hf.1
    obtain ⟨h1, h2, h3⟩ := upds_length us (upd1 hp u) (by rw [g2]; exact hf.2)
    have hle := hf.1
    simp only [upds]
    refine ⟨by omega, fun i hi => ?_, fun v hv => ?_⟩
    · rcases h2 i hi with h | ⟨v, hv, e⟩
      · by_cases hil : i < hp.length
        · exact .inl hil
        · exact .inr ⟨u, List.mem_cons_self .., by omega⟩
      · exact .inr ⟨v, List.mem_cons_of_mem _ hv, e⟩
    · rcases List.mem_cons.1 hv with rfl | hv
      · omega
      · exact h3 v hv
theorem uH_same (h h' : H) (id : Nat) : ∀ (us : List (Nat × Blk)), h id = h' id → uH h us id = uH h' us id
  | [], e => e
  | u :: us, e => by
    rw [uH_cons, uH_cons]
    refine uH_same _ _ id us ?_
    simp only [setH, e]
theorem setH_comm (h : H) {i j : Nat} (a b : Blk) (hne : i ≠ j) : setH (setH h i a) j b = setH (setH h j b) i a := by
  funext k
  simp only [setH]
  by_cases h1 : k = i
  · have h2 : k ≠ j := fun e => hne (h1.symm.trans e)
    simp only [if_pos h1, if_neg h2]
  · simp only [if_neg h1]
theorem setH_uH (i : Nat) (a : Blk) : ∀ (us : List (Nat × Blk)) (h : H), (∀ u ∈ us, u.1 ≠ i) → uH (setH h i a) us = setH (uH h us) i a
  | [], _, _ => rfl
  | u :: us, h, hu => by
    rw [uH_cons, uH_cons, ← setH_uH i a us _ fun v hv => hu v (List.mem_cons_of_mem _ hv)]
    rw [setH_comm h a u.2 (Ne.symm (hu u (List.mem_cons_self ..)))]
theorem uH_comm : ∀ (us vs : List (Nat × Blk)) (h : H), (∀ u ∈ us, ∀ v ∈ vs, u.1 ≠ v.1) → uH (uH h us) vs = uH (uH h vs) us
  | [], vs, h, _ => rfl
  | u :: us, vs, h, hd => by
    rw [uH_cons, uH_cons, uH_comm us vs _ fun a ha b hb => hd a (List.mem_cons_of_mem _ ha) b hb, setH_uH _ _ vs h fun v hv => Ne.symm (hd u (List.mem_cons_self ..) v hv)]
theorem pt_comm (tm : Tm) {d e : Option Nat} (x y : Option AV) (h : ∀ t, d = some t → e ≠ some t) : pt (pt tm d x) e y = pt (pt tm e y) d x := by
  cases d with
  | none => rfl
  | some d =>
    cases e with
    | none => rfl
    | some e =>
      have hne : d ≠ e := fun he => h d rfl (he ▸ rfl)
      funext t
      simp only [pt, up]
      by_cases h1 : t = d
      · have h2 : t ≠ e := fun e' => hne (h1.symm.trans e')
        simp only [if_pos h1, if_neg h2]
      · simp only [if_neg h1]
theorem pt_ne (tm : Tm) {d : Option Nat} (x : Option AV) {t : Nat} (h : d ≠ some t) : pt tm d x t = tm t := by
  cases d with
  | none => rfl
  | some d =>
    simp only [pt, up]
    rw [if_neg fun e => h (by rw [e])]

/-! ### The states, whatever has come up -/
theorem inN_mem {i : Nat} : ∀ {l : List Nat}, inN i l = true ↔ i ∈ l
  | [] => by simp [inN]
  | j :: l => by simp [inN, inN_mem (l := l)]
theorem offN_spec : ∀ {l m : List Nat}, offN l m = true → ∀ i ∈ l, i ∉ m
  | j :: l, m, h, i, hi => by
    simp only [offN, Bool.and_eq_true, Bool.not_eq_true'] at h
    rcases List.mem_cons.1 hi with rfl | hi
    · intro hm
      have := inN_mem.2 hm
      rw [h.1] at this
      cases this
    · exact offN_spec h.2 i hi
theorem free_spec {na ft us : List Nat} : ∀ {lg : Lg}, free na ft us lg = true → ∀ k w f, (k, w, f) ∈ lg → k ∈ na → (∀ i ∈ w, i ∉ ft) ∧ (∀ i ∈ w, i ∉ us) ∧ ∀ i ∈ f, i ∉ us
  | (k0, w0, f0) :: lg, h, k, w, f, hm, hk => by
    simp only [free, Bool.and_eq_true, Bool.or_eq_true, Bool.not_eq_true'] at h
    rcases List.mem_cons.1 hm with e | hm
    · simp only [Prod.mk.injEq] at e
      obtain ⟨rfl, rfl, rfl⟩ := e
      rcases h.1 with h1 | h1
      · have := inN_mem.2 hk
        rw [h1] at this
        cases this
      · exact ⟨offN_spec h1.1.1, offN_spec h1.1.2, offN_spec h1.2⟩
    · exact free_spec h.2 k w f hm hk
theorem fsts_mem {us : List (Nat × Blk)} {i : Nat} : i ∈ fsts us ↔ ∃ u ∈ us, u.1 = i := by
  induction us with
  | nil => simp [fsts]
  | cons u us ih => simp only [fsts, List.mem_cons, ih, exists_eq_or_imp]; exact ⟨fun h => h.imp Eq.symm id, fun h => h.imp Eq.symm id⟩

abbrev TH := Tm × H
def act (d : Option Nat) (ρ : Rc) (s : TH) : TH := (pt s.1 d ρ.v, uH s.2 ρ.us)
def dsts (ops : Array Oper) (k : Nat) : Option Nat := (ops[k]?).bind (·.dst)
def Fd (ops : Array Oper) (tr : Nat → Rc) (s0 : S) (D : Nat → Bool) : Nat → TH
  | 0 => (s0.tm, lk s0.hp)
  | k + 1 => if D k = true then act (dsts ops k) (tr k) (Fd ops tr s0 D k) else Fd ops tr s0 D k

/-- The walk in the text's order, operation for operation. -/
structure Wsq (x : Cx) (ops : Array Oper) (bs : Nat → List Nat) (n : Nat) (tr : Nat → Rc) (st : Nat → S) : Prop where
  dst : ∀ (k : Nat) (o : Oper), ops[k]? = some o → ∀ t : Nat, o.dst = some t → t < n
  step : ∀ (k : Nat) (o : Oper), ops[k]? = some o → st (k + 1) = stepS o.dst (tr k) (st k)
  fact : ∀ (k : Nat) (o : Oper), ops[k]? = some o → ∃ I, trI n ops.toList o = some I ∧ Fact x I (st k) (tr k)
  free : ∀ (i k : Nat) (p o : Oper), ops[i]? = some p → ops[k]? = some o → i < k → i ∉ bs k → (∀ u ∈ (tr i).us, u.1 ∉ foot (st k).tm o.op ∨ (tr k).us = [] ∧ (tr k).sk = true) ∧ (∀ u ∈ (tr i).us, ∀ u' ∈ (tr k).us, u.1 ≠ u'.1) ∧ ∀ u' ∈ (tr k).us, u'.1 ∉ foot (st i).tm p.op ∨ (tr i).us = [] ∧ (tr i).sk = true

theorem Fact.fits {x : Cx} {o : I} {s : S} {ρ : Rc} (h : Fact x o s ρ) : fits s.hp.length ρ.us := by
  cases h with
  | wr p v id b h1 h2 h3 h4 =>
    obtain ⟨b0, hb⟩ := Option.isSome_iff_exists.1 (qw_some h3)
    exact ⟨Nat.le_of_lt (lk_lt hb), trivial⟩
  | ran v us h1 h2 => exact yields_fits (fun i b hi => lk_lt hi) h2
  | skip => exact trivial

section
variable {x : Cx} {ops : Array Oper} {bs : Nat → List Nat} {n : Nat} {tr : Nat → Rc} {st : Nat → S}

theorem getO {ops : Array Oper} {k : Nat} (h : k < ops.size) : ∃ o, ops[k]? = some o := ⟨ops[k], by simp [h]⟩

theorem Wsq.fits (Q : Wsq x ops bs n tr st) {k : Nat} {o : Oper} (ho : ops[k]? = some o) : fits (st k).hp.length (tr k).us := by
  obtain ⟨_, _, hf⟩ := Q.fact k o ho
  exact hf.fits
theorem Wsq.len (Q : Wsq x ops bs n tr st) {k : Nat} {o : Oper} (ho : ops[k]? = some o) : (st k).hp.length ≤ (st (k + 1)).hp.length := by
  rw [Q.step k o ho]
  exact (upds_length _ _ (Q.fits ho)).1
theorem Wsq.mono (Q : Wsq x ops bs n tr st) : ∀ {j k : Nat}, j ≤ k → k ≤ ops.size → (st j).hp.length ≤ (st k).hp.length := by
  intro j k hjk
  induction k with
  | zero => intro _; obtain rfl : j = 0 := by omega
            exact Nat.le_refl _
  | succ k ih =>
    intro hk
    by_cases e : j = k + 1
    · subst e; exact Nat.le_refl _
    · obtain ⟨o, ho⟩ := getO (ops := ops) (k := k) (by omega)
      exact Nat.le_trans (ih (by omega) (by omega)) (Q.len ho)

theorem Fd_true (Q : Wsq x ops bs n tr st) {s0 : S} (h0 : st 0 = s0) (D : Nat → Bool) : ∀ k, k ≤ ops.size → (∀ i, i < k → D i = true) → Fd ops tr s0 D k = ((st k).tm, lk (st k).hp)
  | 0, _, _ => by rw [h0]; rfl
  | k + 1, hk, hD => by
    obtain ⟨o, ho⟩ := getO (ops := ops) (k := k) (by omega)
    rw [Fd, if_pos (hD k (by omega)), Fd_true Q h0 D k (by omega) (fun i hi => hD i (by omega)), Q.step k o ho]
    have hd : dsts ops k = o.dst := by simp [dsts, ho]
    simp only [act, stepS, hd, Prod.mk.injEq, true_and]
    exact (lk_upds _ _ (Q.fits ho)).symm

/-- What has come up is closed. -/
def Closed (ops : Array Oper) (bs : Nat → List Nat) (D : Nat → Bool) : Prop := ∀ (j : Nat) (o : Oper), ops[j]? = some o → D j = true → ∀ i ∈ bs j, D i = true

variable {s0 : S} {D : Nat → Bool} {j : Nat} {oj : Oper}

/-- Behind the one that comes up now: whatever has come up already neither waits for it nor is in its way. -/
theorem later (R : Rg ops bs) (hC : Closed ops bs D) (hj : ops[j]? = some oj) (hnD : D j = false) {k : Nat} {ok : Oper} (hk : ops[k]? = some ok) (hjk : j < k) (hD : D k = true) : j ∉ bs k ∧ apart ops.toList oj ok = true := by
  have hni : j ∉ bs k := fun h => by rw [hC k ok hk hD j h] at hnD; cases hnD
  exact ⟨hni, R.ap k j ok oj hk hj hjk hni⟩
theorem apart_looks {p o : Oper} {l : List Oper} (h : apart l p o = true) : (∀ d, p.dst = some d → d ∉ looks l o ∧ o.dst ≠ some d) ∧ ∀ d, o.dst = some d → d ∉ looks l p := by
  unfold apart at h
  simp only [Bool.and_eq_true] at h
  refine ⟨fun d hd => ?_, fun d hd => ?_⟩
  · have := h.1
    rw [hd] at this
    simpa using this
  · have := h.2
    rw [hd] at this
    simpa using this


theorem tm_at (Q : Wsq x ops bs n tr st) (R : Rg ops bs) (h0 : st 0 = s0) (hC : Closed ops bs D) (hj : ops[j]? = some oj) (hnD : D j = false) (hr : ∀ i ∈ bs j, D i = true) {t : Nat} (ht : t ∈ looks ops.toList oj) :
    ∀ k, k ≤ ops.size → (Fd ops tr s0 D k).1 t = (st (min k j)).tm t
  | 0, _ => by rw [Nat.zero_min, h0]; rfl
  | k + 1, hk => by
    have ih := tm_at Q R h0 hC hj hnD hr ht k (by omega)
    obtain ⟨o, ho⟩ := getO (ops := ops) (k := k) (by omega)
    have hd : dsts ops k = o.dst := by simp [dsts, ho]
    rcases Nat.lt_or_ge k j with hkj | hkj
    · rw [Nat.min_eq_left (by omega)] at ih
      rw [Nat.min_eq_left (by omega), Fd, Q.step k o ho]
      by_cases hD : D k = true
      · rw [if_pos hD]
        simp only [act, stepS, hd]
        by_cases e' : o.dst = some t
        · rw [e']; simp [pt, up]
        · rw [pt_ne _ _ e', pt_ne _ _ e', ih]
      · rw [if_neg hD]
        have hni : k ∉ bs j := fun h => hD (hr k h)
        have a1 := R.ap j k oj o hj ho hkj hni
        have hne : o.dst ≠ some t := fun e => ((apart_looks a1).1 t e).1 ht
        simp only [stepS]
        rw [pt_ne _ _ hne, ih]
    · rw [Nat.min_eq_right hkj] at ih
      rw [Nat.min_eq_right (by omega), Fd]
      by_cases hD : D k = true
      · rw [if_pos hD]
        have hjk : j < k := by
          rcases Nat.eq_or_lt_of_le hkj with e | h
          · subst e; rw [hnD] at hD; cases hD
          · exact h
        obtain ⟨_, a1⟩ := later R hC hj hnD ho hjk hD
        have hne : o.dst ≠ some t := fun e => (apart_looks a1).2 t e ht
        simp only [act, hd]
        rw [pt_ne _ _ hne, ih]
      · rw [if_neg hD, ih]

/-- What the one that comes up now looks at is as in the text's order. -/
theorem h_at (Q : Wsq x ops bs n tr st) (R : Rg ops bs) (h0 : st 0 = s0) (hC : Closed ops bs D) (hj : ops[j]? = some oj) (hnD : D j = false) (hr : ∀ i ∈ bs j, D i = true) (hran : ¬ ((tr j).us = [] ∧ (tr j).sk = true)) {id : Nat}
    (hid : id ∈ foot (st j).tm oj.op) : ∀ k, k ≤ ops.size → (Fd ops tr s0 D k).2 id = lk (st (min k j)).hp id
  | 0, _ => by rw [Nat.zero_min, h0]; rfl
  | k + 1, hk => by
    have ih := h_at Q R h0 hC hj hnD hr hran hid k (by omega)
    obtain ⟨o, ho⟩ := getO (ops := ops) (k := k) (by omega)
    rcases Nat.lt_or_ge k j with hkj | hkj
    · rw [Nat.min_eq_left (by omega)] at ih
      rw [Nat.min_eq_left (by omega), Fd, Q.step k o ho]
      by_cases hD : D k = true
      · rw [if_pos hD]
        simp only [act, stepS]
        rw [lk_upds _ _ (Q.fits ho)]
        exact uH_same _ _ _ _ ih
      · rw [if_neg hD]
        have hni : k ∉ bs j := fun h => hD (hr k h)
        simp only [stepS]
        rw [lk_upds _ _ (Q.fits ho), uH_ne _ _ fun u hu e' => ?_, ih]
        rcases (Q.free k j o oj ho hj hkj hni).1 u hu with h | h
        · exact h (by rw [e']; exact hid)
        · exact hran h
    · rw [Nat.min_eq_right hkj] at ih
      rw [Nat.min_eq_right (by omega), Fd]
      by_cases hD : D k = true
      · rw [if_pos hD]
        have hjk : j < k := by
          rcases Nat.eq_or_lt_of_le hkj with e | h
          · subst e; rw [hnD] at hD; cases hD
          · exact h
        obtain ⟨hni, _⟩ := later R hC hj hnD ho hjk hD
        simp only [act]
        rw [uH_ne _ _ fun u hu e' => ?_, ih]
        rcases (Q.free j k oj o hj ho hjk hni).2.2 u hu with h | h
        · exact h (by rw [e']; exact hid)
        · exact hran h
      · rw [if_neg hD, ih]

/-- Its new numbers are free. -/
theorem new_at (Q : Wsq x ops bs n tr st) (R : Rg ops bs) (h0 : st 0 = s0) (hC : Closed ops bs D) (hj : ops[j]? = some oj) (hnD : D j = false) {id : Nat} (hu : ∃ u ∈ (tr j).us, u.1 = id) (hid : (st j).hp.length ≤ id) :
    ∀ k, k ≤ ops.size → (Fd ops tr s0 D k).2 id = none
  | 0, _ => by
    have := Q.mono (j := 0) (k := j) (by omega) (by have := (Array.getElem?_eq_some_iff.1 hj).1; omega)
    show lk s0.hp id = none
    rw [h0] at this
    exact List.getElem?_eq_none (by omega)
  | k + 1, hk => by
    have ih := new_at Q R h0 hC hj hnD hu hid k (by omega)
    obtain ⟨o, ho⟩ := getO (ops := ops) (k := k) (by omega)
    obtain ⟨u, hu1, hu2⟩ := hu
    have hjs := (Array.getElem?_eq_some_iff.1 hj).1
    rw [Fd]
    by_cases hD : D k = true
    · rw [if_pos hD]
      have hne : k ≠ j := fun e => by subst e; rw [hnD] at hD; cases hD
      simp only [act]
      rw [uH_ne _ _ fun u' hu' e' => ?_, ih]
      rcases Nat.lt_or_ge k j with hkj | hkj
      · have h1 : u'.1 < (st (k + 1)).hp.length := by
          rw [Q.step k o ho]
          exact (upds_length _ _ (Q.fits ho)).2.2 u' hu'
        have := Q.mono (j := k + 1) (k := j) (by omega) (by omega)
        omega
      · obtain ⟨hni, _⟩ := later R hC hj hnD ho (by omega) hD
        exact (Q.free j k oj o hj ho (by omega) hni).2.1 u hu1 u' hu' (by rw [hu2, e'])
    · rw [if_neg hD, ih]

/-- Behind it. -/
theorem Fd_set (Q : Wsq x ops bs n tr st) (R : Rg ops bs) (hC : Closed ops bs D) (hj : ops[j]? = some oj) (hnD : D j = false) {D' : Nat → Bool} (hD' : ∀ k, D' k = if k = j then true else D k) :
    ∀ k, k ≤ ops.size → Fd ops tr s0 D' k = if k ≤ j then Fd ops tr s0 D k else act (dsts ops j) (tr j) (Fd ops tr s0 D k)
  | 0, _ => by rw [if_pos (by omega)]; rfl
  | k + 1, hk => by
    have ih := Fd_set Q R hC hj hnD hD' k (by omega)
    obtain ⟨o, ho⟩ := getO (ops := ops) (k := k) (by omega)
    have hd : dsts ops k = o.dst := by simp [dsts, ho]
    have hdj : dsts ops j = oj.dst := by simp [dsts, hj]
    rw [Fd, Fd]
    rcases Nat.lt_trichotomy k j with hkj | rfl | hkj
    · have e : D' k = D k := by rw [hD' k, if_neg (by omega)]
      rw [e, if_pos (show k + 1 ≤ j by omega), ih, if_pos (show k ≤ j by omega)]
    · have e : D' k = true := by rw [hD' k, if_pos rfl]
      rw [e, if_pos rfl, if_neg (show ¬ k + 1 ≤ k by omega), ih, if_pos (Nat.le_refl _), hnD]
      simp
    · have e : D' k = D k := by rw [hD' k, if_neg (by omega)]
      rw [e, if_neg (show ¬ k + 1 ≤ j by omega), ih, if_neg (show ¬ k ≤ j by omega)]
      by_cases hD : D k = true
      · rw [if_pos hD, if_pos hD]
        obtain ⟨hni, a1⟩ := later R hC hj hnD ho hkj hD
        obtain ⟨b1, b2⟩ := apart_looks a1
        have hdd : ∀ t, oj.dst = some t → o.dst ≠ some t := fun t ht => (b1 t ht).2
        simp only [act, hd, hdj]
        rw [pt_comm _ _ _ hdd, uH_comm _ _ _ (Q.free j k oj o hj ho hkj hni).2.1]
      · rw [if_neg hD, if_neg hD]
end

/-! ### An operation looks at its operands alone -/
theorem evs_congr {tm tm' : Tm} : ∀ {l : List Operand}, (∀ o ∈ l, ev tm o = ev tm' o) → evs tm l = evs tm' l
  | [], _ => rfl
  | o :: l, h => by
    simp only [evs]
    rw [h o (List.mem_cons_self ..), evs_congr fun p hp => h p (List.mem_cons_of_mem _ hp)]
theorem fills_congr {ti : Nat → Option TI} {tm tm' : Tm} {t : Nat} : ∀ {ps : List (Nat × Operand)} {cs : List AV}, (∀ p ∈ ps, ev tm p.2 = ev tm' p.2) → fills ti tm t ps cs = fills ti tm' t ps cs
  | [], _, _ => rfl
  | (k, o) :: ps, cs, h => by
    simp only [fills]
    have h1 := h (k, o) (List.mem_cons_self ..)
    simp only at h1
    rw [h1]
    have ih := fun cs => fills_congr (ti := ti) (t := t) (cs := cs) fun p hp => h p (List.mem_cons_of_mem (k, o) hp)
    simp only [ih]
theorem fillS_congr {h1 : H} {tm tm' : Tm} {z : Nat} : ∀ {ps : List (Nat × Operand)} {es : List (List T)}, (∀ p ∈ ps, ev tm p.2 = ev tm' p.2) → fillS h1 tm z ps es = fillS h1 tm' z ps es
  | [], _, _ => rfl
  | (k, o) :: ps, es, h => by
    simp only [fillS]
    have h2 := h (k, o) (List.mem_cons_self ..)
    simp only at h2
    rw [h2]
    have ih := fun es => fillS_congr (h1 := h1) (z := z) (es := es) fun p hp => h p (List.mem_cons_of_mem (k, o) hp)
    simp only [ih]
theorem bound_congr {tm tm' : Tm} {d : Nat} {o : Option Operand} (h : ∀ x, o = some x → ev tm x = ev tm' x) : bound tm d o = bound tm' d o := by
  cases o with
  | none => rfl
  | some x => simp only [bound]; rw [h x rfl]
theorem q_congr {ti : Nat → Option TI} {tm tm' : Tm} {h1 : H} {n : Nat} {op : Op} (h : ∀ o ∈ op.operands, ev tm o = ev tm' o) : q ti tm h1 n op = q ti tm' h1 n op := by
  cases op <;> simp only [Op.operands] at h <;> simp only [q]
  case slice t a lo hi mx =>
    rw [h a (by simp)]
    have hb : ∀ d, bound tm d lo = bound tm' d lo := fun d => bound_congr fun x e => h x (by simp [e])
    have hb2 : ∀ d, bound tm d hi = bound tm' d hi := fun d => bound_congr fun x e => h x (by simp [e])
    have hb3 : ∀ d, bound tm d mx = bound tm' d mx := fun d => bound_congr fun x e => h x (by simp [e])
    cases ev tm' a with
    | none => rfl
    | some v => simp only [qSlice, hb, hb2, hb3]
  case build t ps =>
    have e := fun cs => fills_congr (ti := ti) (t := t) (cs := cs) (ps := ps.toList) (tm := tm) (tm' := tm') fun p hp => h p.2 (by simp; exact ⟨p.1, by simpa using hp⟩)
    simp only [e]
  case buildSlice t len ps =>
    have e := fun z es => fillS_congr (h1 := h1) (z := z) (es := es) (ps := ps.toList) (tm := tm) (tm' := tm') fun p hp => h p.2 (by simp; exact ⟨p.1, by simpa using hp⟩)
    simp only [e]
  case makeFunc f a cap => rw [evs_congr (l := cap.toList) fun o ho => h o (by simp; exact .inr (by simpa using ho))]
  case call cl =>
    obtain ⟨callee, args, tys⟩ := cl
    cases callee <;> simp only
    rw [evs_congr (l := args.toList) fun o ho => h o (by simp [Call.operands]; simpa using ho)]
  all_goals first
    | rfl
    | (rw [h _ (by simp)]; done)
    | (rw [h _ (by simp), h _ (by simp)]; done)
    | (simp only [List.mem_toArray, List.mem_cons, List.not_mem_nil, or_false, forall_eq_or_imp, forall_eq] at h; simp only [h])
theorem yields_congr {x : Cx} {tm tm' : Tm} {h1 : H} {n : Nat} {op : Op} {v : AV} {us : List (Nat × Blk)} (h : ∀ o ∈ op.operands, ev tm o = ev tm' o) (hy : yields x tm h1 n op v us) : yields x tm' h1 n op v us := by
  unfold yields wq at hy ⊢
  rw [← q_congr h]
  cases hc : callOf op with
  | none => rw [hc] at hy; exact hy
  | some p =>
    obtain ⟨f, as⟩ := p
    rw [hc] at hy
    cases op <;> simp only [callOf, reduceCtorEq] at hc
    rename_i cl
    obtain ⟨callee, args, tys⟩ := cl
    cases callee <;> simp only [Option.some.injEq, Prod.mk.injEq, reduceCtorEq] at hc
    obtain ⟨rfl, rfl⟩ := hc
    rename_i f
    simp only
    rw [← h f (by simp [Op.operands, Call.operands]), ← evs_congr (tm := tm) (tm' := tm') (l := args.toList) fun o ho => h o (by simp [Op.operands, Call.operands]; exact .inr (by simpa using ho))]
    exact hy

/-! ### Every order -/
def un (D : Nat → Bool) : Nat → Nat
  | 0 => 0
  | k + 1 => un D k + (if D k = true then 0 else 1)
theorem un_zero {D : Nat → Bool} : ∀ {n : Nat}, un D n = 0 → ∀ k, k < n → D k = true
  | n + 1, h, k, hk => by
    simp only [un] at h
    by_cases e : k = n
    · subst e
      refine Classical.byContradiction fun hd => ?_
      rw [if_neg hd] at h
      omega
    · exact un_zero (D := D) (n := n) (by omega) k (by omega)
theorem un_set {D D' : Nat → Bool} {j : Nat} (hj : D j = false) (h : ∀ k, D' k = if k = j then true else D k) : ∀ n, un D n = un D' n + (if j < n then 1 else 0)
  | 0 => rfl
  | n + 1 => by
    simp only [un]
    rw [un_set hj h n, h n]
    by_cases e : n = j
    · subst e
      simp [hj]
    · rw [if_neg e]
      by_cases h1 : j < n
      · rw [if_pos h1, if_pos (show j < n + 1 by omega)]; omega
      · rw [if_neg h1, if_neg (show ¬ j < n + 1 by omega)]; omega

theorem trD_get {nt : Nat} {ops : List Oper} {bs : List (List Nat)} : ∀ (r : List Oper) (j : Nat) (l : List D), trD nt ops bs j r = some l → l.length = r.length ∧ ∀ (i : Nat) (o : Oper), r[i]? = some o →
    ∃ I, trI nt ops o = some I ∧ l[i]? = some ⟨I, (List.range (j + i)).filter (fun k => !(bs.getD (j + i) []).contains k)⟩
  | [], j, l, h => by simp [trD] at h; subst h; simp
  | o :: r, j, l, h => by
    simp only [trD] at h
    split at h <;> simp only [Option.some.injEq, reduceCtorEq] at h
    rename_i I is h1 h2
    subst h
    obtain ⟨g1, g2⟩ := trD_get r (j + 1) is h2
    refine ⟨by simp [g1], fun i o' ho => ?_⟩
    cases i with
    | zero =>
      simp only [List.getElem?_cons_zero, Option.some.injEq] at ho
      subst ho
      exact ⟨I, h1, by rw [Nat.add_zero]; rfl⟩
    | succ i =>
      obtain ⟨I', e1, e2⟩ := g2 i o' (by simpa using ho)
      refine ⟨I', e1, ?_⟩
      rw [List.getElem?_cons_succ, e2, show j + 1 + i = j + (i + 1) by omega]
theorem trI_spec {nt : Nat} {ops : List Oper} {o : Oper} {I : I} (h : trI nt ops o = some I) : I.d = o.dst ∧ I.op = o.op ∧ (∀ t, o.dst = some t → t < nt) ∧ ((o.guard = none ∧ I.g = none) ∨ ∃ g want t, o.guard = some (g, want) ∧ dstAt ops g = some t ∧ I.g = some (t, want)) := by
  unfold trI at h
  split at h <;> try cases h
  rename_i hd
  split at h
  · rename_i hg
    simp only [Option.some.injEq] at h
    subst h
    exact ⟨rfl, rfl, dstIn_spec hd, .inl ⟨hg, rfl⟩⟩
  · rename_i g want hg
    split at h <;> simp only [Option.some.injEq, reduceCtorEq] at h
    rename_i t ht
    subst h
    exact ⟨rfl, rfl, dstIn_spec hd, .inr ⟨g, want, t, hg, ht, rfl⟩⟩


section
variable {P : Program} {w w' : World} {c : Ct} {m m' m1 : Mp} {h h' h1 : H} {tm : Tm} {a : Act}

theorem seq_of {x : Cx} {ops : Array Oper} {l : List D} (ht : trD c.n ops.toList (befs ops.toList []) 0 ops.toList = some l) {s : S} {K : S → Prop} (hW : wdraw x l 0 [] s K) :
    ∃ tr st, Wsq x ops (fun j => (befs ops.toList []).getD j []) c.n tr st ∧ st 0 = s ∧ K (st ops.size) := by
  obtain ⟨tr, st, lgs, h1, h2, h3, h4⟩ := lex_of l 0 [] s hW
  obtain ⟨g1, g2⟩ := trD_get _ _ _ ht
  have hlen : l.length = ops.size := by simpa using g1
  have key : ∀ (k : Nat) (o : Oper), ops[k]? = some o → ∃ I, trI c.n ops.toList o = some I ∧ Fact x I (st k) (tr k) ∧ st (k + 1) = stepS I.d (tr k) (st k) ∧
      (((tr k).us = [] ∧ (tr k).sk = true) ∧ lgs (k + 1) = lgs k ∨ free ((List.range k).filter fun i => !((befs ops.toList []).getD k []).contains i) (foot (st k).tm I.op) (fsts (tr k).us) (lgs k) = true ∧ lgs (k + 1) = (k, fsts (tr k).us, foot (st k).tm I.op) :: lgs k) := fun k o ho => by
    obtain ⟨I, e1, e2⟩ := g2 k o (by simpa using ho)
    rw [Nat.zero_add] at e2
    obtain ⟨f1, f2, f3⟩ := h4 k _ e2
    rw [Nat.zero_add] at f3
    exact ⟨I, e1, f1, f2, f3⟩
  -- what is logged
  have hlog : ∀ k, k ≤ ops.size → ∀ i (p : Oper), i < k → ops[i]? = some p → ((tr i).us = [] ∧ (tr i).sk = true) ∨ (i, fsts (tr i).us, foot (st i).tm p.op) ∈ lgs k := by
    intro k
    induction k with
    | zero => intro _ i p hi; omega
    | succ k ih =>
      intro hk i p hi hp
      obtain ⟨o, ho⟩ := getO (ops := ops) (k := k) (by omega)
      obtain ⟨I, e1, f1, f2, f3⟩ := key k o ho
      by_cases e : i = k
      · subst e
        rw [ho] at hp
        simp only [Option.some.injEq] at hp
        subst hp
        obtain ⟨_, i2, _, _⟩ := trI_spec e1
        rcases f3 with ⟨f3, f4⟩ | ⟨_, f3⟩
        · exact .inl f3
        · right
          rw [f3, i2]
          exact List.mem_cons_self ..
      · rcases ih (by omega) i p (by omega) hp with h | h
        · exact .inl h
        · right
          rcases f3 with ⟨_, f3⟩ | ⟨_, f3⟩
          · rw [f3]; exact h
          · rw [f3]; exact List.mem_cons_of_mem _ h
  refine ⟨tr, st, ⟨fun k o ho => ?_, fun k o ho => ?_, fun k o ho => ?_, fun i k p o hp ho hik hni => ?_⟩, h1, by rw [← hlen]; exact h3⟩
  · obtain ⟨I, e1, _⟩ := key k o ho
    exact (trI_spec e1).2.2.1
  · obtain ⟨I, e1, _, e3, _⟩ := key k o ho
    rw [e3, (trI_spec e1).1]
  · obtain ⟨I, e1, e2, _⟩ := key k o ho
    exact ⟨I, e1, e2⟩
  · obtain ⟨I, e1, f1, f2, f3⟩ := key k o ho
    obtain ⟨_, i2, _, _⟩ := trI_spec e1
    have hk := (Array.getElem?_eq_some_iff.1 ho).1
    have hna : i ∈ (List.range k).filter fun i => !((befs ops.toList []).getD k []).contains i := by simp [hik]; simpa using hni
    rcases f3 with ⟨f3, _⟩ | ⟨f3, _⟩
    · rw [f3.1]
      exact ⟨fun _ _ => .inr ⟨rfl, f3.2⟩, fun _ _ u' hu' => by simp at hu', fun u' hu' => by simp at hu'⟩
    · rcases hlog k (by omega) i p hik hp with hz | hm
      · rw [hz.1]
        exact ⟨fun u hu => (by cases hu), fun u hu => (by cases hu), fun _ _ => .inr ⟨rfl, hz.2⟩⟩
      · obtain ⟨s1, s2, s3⟩ := free_spec f3 i _ _ hm hna
        rw [i2] at s1
        exact ⟨fun u hu => .inl (s1 u.1 (fsts_mem.2 ⟨u, hu, rfl⟩)), fun u hu u' hu' e => s2 u.1 (fsts_mem.2 ⟨u, hu, rfl⟩) (fsts_mem.2 ⟨u', hu', e.symm⟩), fun u' hu' => .inl fun hf => s3 u'.1 hf (fsts_mem.2 ⟨u', hu', rfl⟩)⟩

theorem Sat.drawn (hS : Sat c m h tm a w) : Sat c m h tm a { w with drawn := w.drawn + 1 } := by
  have hb : RowKit.Below w.heap.size w { w with drawn := w.drawn + 1 } := ⟨rfl, rfl, rfl, Nat.le_refl _, fun _ _ => rfl⟩
  obtain ⟨h1, h2⟩ := hS.mem.grow hb
  exact hS.of_mem h1 h2


theorem qw_congr {ti : Nat → Option TI} {tm tm' : Tm} {h1 : H} {d : Option Nat} {op : Op} (h : ∀ o ∈ op.operands, ev tm o = ev tm' o) : qw ti tm h1 d op = qw ti tm' h1 d op := by
  cases op <;> simp only [Op.operands] at h <;> simp only [qw]
  case store t a b => rw [h a (by simp), h b (by simp)]
  case call cl => rw [evs_congr (l := cl.args.toList) fun o ho => h o (by simp [Call.operands]; exact .inr (by simpa using ho))]

theorem any_sound {x : Cx} (E : Env x c) {ops : Array Oper} {bs : Nat → List Nat} {tr : Nat → Rc} {st : Nat → S} (W : Wsq x ops bs c.n tr st) (R : Rg ops bs) {s0 : S} (h0 : st 0 = s0) {Q : Exit → Act → World → Prop}
    (hn : ∀ a' w' m', Sat c m' (lk (st ops.size).hp) (st ops.size).tm a' w' → Q .normal a' w') :
    ∀ (fuel : Nat) (listed : Array Bool) (a : Act) (w : World) (m : Mp), listed.size = ops.size → Closed ops bs (fun k => listed.getD k false) → un (fun k => listed.getD k false) ops.size ≤ fuel →
      Sat c m (Fd ops tr s0 (fun k => listed.getD k false) ops.size).2 (Fd ops tr s0 (fun k => listed.getD k false) ops.size).1 a w → wpAny c.P .any ops Q fuel listed a w := by
  have done : ∀ (listed : Array Bool) (a : Act) (w : World) (m : Mp), (∀ k, k < ops.size → listed.getD k false = true) → Sat c m (Fd ops tr s0 (fun k => listed.getD k false) ops.size).2 (Fd ops tr s0 (fun k => listed.getD k false) ops.size).1 a w → Q .normal a w := fun listed a w m hall hS => by
    rw [Fd_true W h0 _ ops.size (Nat.le_refl _) hall] at hS
    exact hn a w m hS
  have getD2 : ∀ (listed : Array Bool) (k : Nat), k < listed.size → listed.getD k true = listed.getD k false := fun listed k hk => by simp [Array.getD, hk]
  have ready : ∀ (listed : Array Bool), listed.size = ops.size → Region.ready .any ops listed = [] → ∀ k, k < ops.size → listed.getD k false = true := fun listed hsz hr => by
    intro k
    induction k using Nat.strongRecOn with
    | ind k ih =>
      intro hk
      refine Classical.byContradiction fun hd => ?_
      obtain ⟨o, ho⟩ := getO (ops := ops) (k := k) hk
      have : k ∈ Region.ready .any ops listed := mem_ready.2 ⟨by rw [getD2 _ _ (by omega)]; simpa using hd, o, ho, fun e he hb => by
        have := (R.dep k o ho e he hb).1
        exact ih e.on this (by omega)⟩
      rw [hr] at this
      cases this
  intro fuel
  induction fuel with
  | zero =>
    intro listed a w m hsz hC hun hS
    have hall := un_zero (D := fun k => listed.getD k false) (n := ops.size) (by omega)
    refine ⟨?_, done listed a w m hall hS⟩
    refine List.eq_nil_iff_forall_not_mem.2 fun k hk => ?_
    obtain ⟨h1, o, ho, _⟩ := mem_ready.1 hk
    have hkl := (Array.getElem?_eq_some_iff.1 ho).1
    rw [getD2 _ _ (by omega)] at h1
    have := hall k hkl
    rw [h1] at this
    cases this
  | succ fuel ih =>
    intro listed a w m hsz hC hun hS
    refine ⟨fun hr => done listed a w m (ready listed hsz hr) hS, fun j hj => ?_⟩
    obtain ⟨hnD', o, ho, hdep⟩ := mem_ready.1 hj
    have hjl := (Array.getElem?_eq_some_iff.1 ho).1
    rw [getD2 _ _ (by omega)] at hnD'
    have hnD : (fun k => listed.getD k false) j = false := hnD'
    have hr : ∀ i ∈ bs j, (fun k => listed.getD k false) i = true := fun i hi => by
      obtain ⟨e, he, hb, hi'⟩ := R.bsd j o ho i hi
      have h1 := hdep e he hb
      rcases hi' with rfl | hi'
      · exact h1
      · obtain ⟨oe, hoe⟩ := getO (ops := ops) (k := e.on) (by have := (R.dep j o ho e he hb).1; omega)
        exact hC e.on oe hoe h1 i hi'
    have hD' : ∀ k, (fun k => (listed.setIfInBounds j true).getD k false) k = if k = j then true else (fun k => listed.getD k false) k := fun k => by
      by_cases e : k = j
      · subst e; simp [show k < listed.size by omega]
      · rw [if_neg e]; exact getD_set_ne false (Ne.symm e)
    have hC' : Closed ops bs (fun k => (listed.setIfInBounds j true).getD k false) := fun k ok hk hd i hi => by
      rw [hD'] at hd ⊢
      by_cases e : i = j
      · rw [if_pos e]
      · rw [if_neg e]
        by_cases e2 : k = j
        · subst e2; exact hr i hi
        · rw [if_neg e2] at hd; exact hC k ok hk hd i hi
    have hun' : un (fun k => (listed.setIfInBounds j true).getD k false) ops.size ≤ fuel := by
      have := un_set hnD hD' ops.size
      rw [if_pos hjl] at this
      omega
    have next : ∀ a' w' m', Sat c m' (act o.dst (tr j) (Fd ops tr s0 (fun k => listed.getD k false) ops.size)).2 (act o.dst (tr j) (Fd ops tr s0 (fun k => listed.getD k false) ops.size)).1 a' w' → wpAny c.P .any ops Q fuel (listed.setIfInBounds j true) a' w' := fun a' w' m' hS' => by
      refine ih _ a' w' m' (by simpa using hsz) hC' hun' ?_
      rw [Fd_set W R hC ho hnD hD' ops.size (Nat.le_refl _), if_neg (by omega), show dsts ops j = o.dst by simp [dsts, ho]]
      exact hS'
    unfold wpOp
    rw [ho]
    simp only
    have htm := fun t ht => tm_at W R h0 hC ho hnD hr (t := t) ht ops.size (Nat.le_refl _)
    rw [Nat.min_eq_right (by omega)] at htm
    have hops : ∀ y ∈ o.op.operands, ev (st j).tm y = ev (Fd ops tr s0 (fun k => listed.getD k false) ops.size).1 y := fun y hy => by
      cases y with
      | tmp t => exact (htm t (by unfold looks; exact List.mem_append_left _ (List.mem_filterMap.2 ⟨.tmp t, by simpa using hy, rfl⟩))).symm
      | _ => rfl
    have hgd : ∀ (g : Nat) (want b : Bool) (t : Nat) (lb : Bool), o.guard = some (g, want) → dstAt ops.toList g = some t → gt (st j).tm t = some (.t (.b b) lb) → Region.wanted o (yielded ops a.tmps) = (b == want) := fun g want b t lb h1 h2 h3 => by
      have h4 : (Fd ops tr s0 (fun k => listed.getD k false) ops.size).1 t = some (.t (.b b) lb) := by
        rw [htm t (by simp [looks, h1, h2])]
        exact h3
      obtain ⟨rv, hrv, hvr⟩ := tmps_get hS (t := t) h4
      have hy : yielded ops a.tmps g = some b := by
        unfold dstAt at h2
        have h2' : (ops[g]?).bind (·.dst) = some t := by simpa using h2
        unfold yielded
        rw [h2']
        simp only [Option.bind_some, hrv]
        cases hvr with
        | t _ _ _ hr => cases hr; rfl
      unfold Region.wanted
      rw [h1]
      simp only [hy]
      cases b <;> cases want <;> rfl
    have hgu : ∀ (g : Nat) (want : Bool) (t : Nat), o.guard = some (g, want) → dstAt ops.toList g = some t → gt (st j).tm t = some (.tup []) → Region.wanted o (yielded ops a.tmps) = false := fun g want t h1 h2 h3 => by
      have h4 : (Fd ops tr s0 (fun k => listed.getD k false) ops.size).1 t = some (.tup []) := by
        rw [htm t (by simp [looks, h1, h2])]
        exact h3
      obtain ⟨rv, hrv, hvr⟩ := tmps_get hS (t := t) h4
      have hy : yielded ops a.tmps g = none := by
        unfold dstAt at h2
        have h2' : (ops[g]?).bind (·.dst) = some t := by simpa using h2
        unfold yielded
        rw [h2']
        simp only [Option.bind_some, hrv]
        cases hvr
        rfl
      unfold Region.wanted
      rw [h1]
      simp only [hy]
      rfl
    obtain ⟨I, hI, hfact⟩ := W.fact j o ho
    obtain ⟨i1, i2, _, i4⟩ := trI_spec hI
    cases etr : tr j with
    | mk v us sk =>
    have hfoot : ¬ ((tr j).us = [] ∧ (tr j).sk = true) → Same (foot (st j).tm o.op) (lk (st j).hp) (Fd ops tr s0 (fun k => listed.getD k false) ops.size).2 := fun hran id hid => by
      rw [h_at W R h0 hC ho hnD hr hran hid ops.size (Nat.le_refl _), Nat.min_eq_right (by omega)]
    rw [etr] at hfact
    cases hfact with
    | ran v us h1 h2 =>
      have hw : Region.wanted o (yielded ops a.tmps) = true := by
        rcases h1 with h1 | ⟨t, want, lb, h1, h5⟩
        · rcases i4 with ⟨h, _⟩ | ⟨_, _, _, _, _, h⟩
          · simp [Region.wanted, h]
          · rw [h] at h1; cases h1
        · rcases i4 with ⟨_, h⟩ | ⟨g, want', t', h6, h7, h⟩
          · rw [h] at h1; cases h1
          · rw [h] at h1
            simp only [Option.some.injEq, Prod.mk.injEq] at h1
            obtain ⟨rfl, rfl⟩ := h1
            rw [hgd g _ _ _ lb h6 h7 h5]; simp
      rw [if_pos hw]
      refine .inl ?_
      have hfree : (Fd ops tr s0 (fun k => listed.getD k false) ops.size).2 ((st ops.size).hp.length) = none := by
        have : ∀ k, k ≤ ops.size → ∀ id, (st ops.size).hp.length ≤ id → (Fd ops tr s0 (fun k => listed.getD k false) k).2 id = none := by
          intro k
          induction k with
          | zero =>
            intro _ id hid
            have := W.mono (j := 0) (k := ops.size) (by omega) (Nat.le_refl _)
            rw [h0] at this
            exact List.getElem?_eq_none (by omega)
          | succ k ihk =>
            intro hk id hid
            obtain ⟨ok, hok⟩ := getO (ops := ops) (k := k) (by omega)
            have hm := W.mono (j := k + 1) (k := ops.size) (by omega) (Nat.le_refl _)
            rw [Fd]
            split
            · simp only [act]
              rw [uH_ne _ _ fun u hu e => ?_, ihk (by omega) id hid]
              have := (upds_length _ _ (W.fits hok)).2.2 u hu
              rw [W.step k ok hok] at hm
              simp only [stepS] at hm
              omega
            · exact ihk (by omega) id hid
        exact this ops.size (Nat.le_refl _) _ (Nat.le_refl _)
      rw [i2] at h2
      have hy := yields_congr hops (yields_foot (hfoot (by rw [etr]; rintro ⟨_, h⟩; cases h)) h2)
      refine yields_sound E hfree hS (fun _ _ h => h) hy (fun u hu hle => new_at W R h0 hC ho hnD ⟨u, by rw [etr]; exact hu, rfl⟩ hle ops.size (Nat.le_refl _)) fun rv w' m' hl => ?_
      refine next _ _ m' ?_
      rw [etr]
      exact hl.sat hS o.dst (W.dst j o ho)
    | skip t want lb h1 h2 =>
      have hw : Region.wanted o (yielded ops a.tmps) = false := by
        rcases i4 with ⟨_, h⟩ | ⟨g, want', t', h6, h7, h⟩
        · rw [h] at h1; cases h1
        · rw [h] at h1
          simp only [Option.some.injEq, Prod.mk.injEq] at h1
          obtain ⟨rfl, rfl⟩ := h1
          rcases h2 with h2 | h2
          · rw [hgd g _ _ _ lb h6 h7 h2]
            cases want' <;> rfl
          · exact hgu g _ _ h6 h7 h2
      rw [hw]
      simp only [Bool.false_eq_true, if_false]
      refine next _ _ m ?_
      rw [etr]
      exact hS.put o.dst (W.dst j o ho) (.tup #[] [] rfl (by simp))
    | wr p v id b h1 h2 h3 h4 =>
      have hw : Region.wanted o (yielded ops a.tmps) = true := by
        rcases i4 with ⟨h, _⟩ | ⟨_, _, _, _, _, h⟩
        · simp [Region.wanted, h]
        · rw [h] at h2; cases h2
      rw [if_pos hw]
      refine .inl ?_
      rw [i1, i2] at h3
      rw [qw_foot (hfoot (by rw [etr]; rintro ⟨h, _⟩; cases h)), qw_congr hops] at h3
      obtain ⟨_, nx, w', hrun, hc⟩ := qw_sound E.ti hS (W.dst j o ho) h3 h4
      unfold Oper.wp
      rw [hrun]
      rcases hc with ⟨rfl, hS'⟩ | ⟨v', rfl, hS'⟩
      · exact next _ _ m (by rw [etr]; exact hS')
      · exact next _ _ m (by rw [etr]; exact hS')

/-- A statement whose order Go leaves open. -/
theorem draw_sound {x : Cx} (E : Env x c) (hm : c.P.follows .mixedOrders = true) {id : Nat} {ops : Array Oper} (hok : drawOK ops.toList = true) {l : List D} (ht : trD c.n ops.toList (befs ops.toList []) 0 ops.toList = some l)
    {Q : Exit → Act → World → Prop} {K : S → Prop} (hn : ∀ s' a' w' m', K s' → Sat c m' (lk s'.hp) s'.tm a' w' → Q .normal a' w') {s : S} (hS : Sat c m (lk s.hp) s.tm a w) (hW : wdraw x l 0 [] s K) : (Code.region id ops true).wp c.P Q a w := by
  obtain ⟨tr, st, W, h0, hK⟩ := seq_of ht hW
  refine wp_region_any hm (any_sound E W (rg_of hok) h0 (fun a' w' m' hS' => hn _ a' w' m' hK hS') ops.size _ a _ m (by simp) (fun j o ho hd i hi => by
    have hj := (Array.getElem?_eq_some_iff.1 ho).1
    simp [hj] at hd) ?_ ?_)
  · have : ∀ (D : Nat → Bool) n, un D n ≤ n := fun D n => by
      induction n with
      | zero => exact Nat.le_refl _
      | succ n ih => simp only [un]; split <;> omega
    exact this _ _
  · have hz : ∀ k, Fd ops tr s (fun k => (Array.replicate ops.size false).getD k false) k = (s.tm, lk s.hp) := fun k => by
      induction k with
      | zero => rfl
      | succ k ih =>
        rw [Fd, if_neg, ih]
        by_cases hk : k < ops.size <;> simp [hk]
    rw [hz]
    exact hS.drawn
end
end Go.Proofs.Ytadnjellfiafaaa.Pm
