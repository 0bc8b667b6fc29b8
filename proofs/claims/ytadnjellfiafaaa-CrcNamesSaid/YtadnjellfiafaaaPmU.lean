/- The abstract machine, twentieth part: what is asked of a run ('W') is enough: code. No law of Go's is stated here. -/
import Derived.Test.YtadnjellfiafaaaPmDr
import Derived.ScopeJumps
set_option linter.all false
namespace Go.Proofs.Ytadnjellfiafaaa.Pm
open Go Go.RowKit

section
variable {P : Program} {w w' : World} {c : Ct} {m m' m1 : Mp} {h h' h1 : H} {ti : Nat → Option TI} {tm : Tm} {a : Act}

/-! ### A loop's head -/
def below1 (k : Nat) : AV → Bool
  | .row id .. | .vs id .. | .ptr id .. | .eptr id .. => decide (id < k)
  | .t .. | .nl | .e0 => true
  | _ => false

theorem below_of1 {k : Nat} {v : AV} (hb : below1 k v = true) : below k v = true := by
  cases v <;> first | exact hb | exact (Bool.false_ne_true hb).elim

/-- Sight is narrowed: values that lead nowhere else stay. -/
structure Nar (k : Nat) (h h' : H) : Prop where
  row : ∀ id v z es l, id < k → (h' id = some (.row v z es l) ↔ h id = some (.row v z es l))
  known : ∀ id, id < k → (h id).isSome = true → (h' id).isSome = true

theorem Nar.rowOf {k : Nat} (hN : Nar k h h') {id ver : Nat} (hid : id < k) {r : Nat × List (List T) × Bool} (hr : rowOf h' id ver = some r) : rowOf h id ver = some r := by
  obtain ⟨z, es, l⟩ := r
  have := (hN.row id ver z es l hid).1 (rowOf_some hr)
  simp [Pm.rowOf, this]

theorem vr_nar {B k : Nat} (hN : Nar k h h') {v : Value} {x : AV} (hx : below k x = true) (hv : VR m B h w v x) : VR m B h' w v x := by
  have one : ∀ {v : Value} {x : AV}, below1 k x = true → VR m B h w v x → VR m B h' w v x := by
    intro v x hx hv
    cases hv <;> simp only [below1, decide_eq_true_eq, Bool.false_eq_true] at hx
    case t y l hr => exact .t _ _ _ hr
    case nl => exact .nl
    case e0 A => exact .e0 A
    case row id ver off len cc A hid hver hc hr => exact .row id ver off len cc A (hN.known _ hx hid) (fun v' z es l hh => hver v' z es l ((hN.row _ _ _ _ _ hx).1 hh)) hc fun z es l hrow => hr z es l (hN.rowOf hx hrow)
    case vs id off len z cc A hid hc hA => exact .vs id off len z cc A (hN.known _ hx hid) hc hA
    case ptr id off hid => exact .ptr id off (hN.known _ hx hid)
    case eptr id ver i j a hid hver hr => exact .eptr id ver i j a (hN.known _ hx hid) (fun v' z es l hh => hver v' z es l ((hN.row _ _ _ _ _ hx).1 hh)) fun z es l hrow => hr z es l (hN.rowOf hx hrow)
  have flat : ∀ (y : AV), (match y with | .row id .. | .vs id .. | .ptr id .. | .eptr id .. => decide (id < k) | .t .. | .nl | .e0 => true | _ => false) = true → below1 k y = true := fun y hy => by cases y <;> first | exact hy | rfl
  cases x
  case agg cs =>
    simp only [below, List.all_eq_true] at hx
    cases hv with
    | agg vs _ hs hvv => exact .agg vs cs hs fun j u y hu hy => one (flat y (hx y (List.mem_of_getElem? hy))) (hvv j u y hu hy)
  case fn f cs =>
    simp only [below, List.all_eq_true] at hx
    cases hv with
    | fn _ vs _ hs hvv => exact .fn f vs cs hs fun j u y hu hy => one (flat y (hx y (List.mem_of_getElem? hy))) (hvv j u y hu hy)
  case tup => exact (Bool.false_ne_true hx).elim
  all_goals exact one hx hv

theorem restr_get {tm : Tm} : ∀ (ts : List Nat) (t : Nat) (v : AV), restr tm ts t = some v → tm t = some v
  | [], t, v, h => by cases h
  | a :: ts, t, v, h => by
    simp only [restr, up] at h
    split at h
    · rename_i e; subst e; exact h
    · exact restr_get ts t v h
theorem restrB_get {k : Nat} {tm : Tm} : ∀ (ts : List Nat) (t : Nat) (v : AV), restrB k tm ts t = some v → tm t = some v ∧ below k v = true
  | [], t, v, h => by cases h
  | a :: ts, t, v, h => by
    simp only [restrB, up] at h
    split at h
    · rename_i e
      subst e
      unfold belowO at h
      split at h
      · rename_i u hu
        split at h
        · simp only [Option.some.injEq] at h
          subst h
          exact ⟨hu, by assumption⟩
        · cases h
      · cases h
    · exact restrB_get ts t v h

theorem lk_cut (hp : List Blk) (k id : Nat) : lk ((hp.take k).map (cutB k)) id = if id < k then (lk hp id).map (cutB k) else none := by
  unfold lk
  rw [List.getElem?_map]
  by_cases h1 : id < k
  · rw [List.getElem?_take_of_lt h1, if_pos h1]
  · rw [if_neg h1, List.getElem?_eq_none (by simp; omega)]
    rfl

theorem cut_sound {s : S} {mk : List Nat} {k : Nat} (hS : Sat c m (lk s.hp) s.tm a w) : Sat c m (lk (cut mk k s).hp) (cut mk k s).tm a w := by
  have hlk : lk (cut mk k s).hp = fun id => if id < k then (lk s.hp id).map (cutB k) else none := funext fun id => lk_cut s.hp k id
  have hrow : ∀ (b : Blk) (v z : Nat) (es : List (List T)) (l : Bool), cutB k b = .row v z es l ↔ b = .row v z es l := fun b v z es l => by
    cases b <;> simp [cutB]
    split <;> simp
  have hN : Nar k (lk s.hp) (lk (cut mk k s).hp) := by
    rw [hlk]
    refine ⟨fun id v z es l hid => ?_, fun id hid hh => ?_⟩
    · simp only [if_pos hid, Option.map_eq_some_iff, hrow]
      exact ⟨fun ⟨b, h1, h2⟩ => by rw [h1, h2], fun h1 => ⟨_, h1, rfl⟩⟩
    · simp only [if_pos hid]
      obtain ⟨b, hb⟩ := Option.isSome_iff_exists.1 hh
      rw [hb]; rfl
  have hpl : ∀ i g, place m (lk (cut mk k s).hp) i = some g → place m (lk s.hp) i = some g := fun i g hg => by
    unfold place at hg ⊢
    rw [hlk] at hg
    simp only at hg
    by_cases hi : i < k
    · rw [if_pos hi] at hg
      cases hb : lk s.hp i with
      | none => rw [hb] at hg; simp at hg
      | some b =>
        rw [hb] at hg
        simp only [Option.map_some] at hg
        cases b
        · simp only [cutB] at hg
          split at hg
          · exact hg
          · simp [placeB] at hg
        · exact hg
        · exact hg
    · rw [if_neg hi] at hg; simp at hg
  refine ⟨⟨hS.mem.below, fun i b hi => ?_, fun i j g hi hj => hS.mem.sep i j g (hpl i g hi) (hpl j g hj), hS.mem.stlt, hS.mem.stin⟩, hS.defers, hS.size, fun t v ht => ?_⟩
  · have hi' := hi
    rw [hlk] at hi'
    simp only at hi'
    by_cases hik : i < k
    · rw [if_pos hik] at hi'
      simp only [Option.map_eq_some_iff] at hi'
      obtain ⟨b0, hb0, rfl⟩ := hi'
      have hb := hS.mem.blk i b0 hb0
      cases b0 with
      | var cs =>
        simp only [cutB]
        split
        · rename_i hall
          rw [List.all_eq_true] at hall
          obtain ⟨b1, b2, rcs, tt, b3, b4, b5⟩ := hb
          exact ⟨b1, b2, rcs, tt, b3, b4, fun j v x hv hx => vr_nar hN (hall x (List.mem_of_getElem? hx)) (b5 j v x hv hx)⟩
        · exact trivial
      | row v z es l => exact hb
      | gone => exact trivial
    · rw [if_neg hik] at hi'; cases hi'
  · obtain ⟨h1, h2⟩ := restrB_get mk t v ht
    exact ⟨(hS.tmps t v h1).1, vr_nar hN h2 (hS.tmps t v h1).2⟩

theorem lk_push (hp : List Blk) (b : Blk) : lk (hp ++ [b]) = setH (lk hp) hp.length b := by
  have := lk_upds [(hp.length, b)] hp ⟨Nat.le_refl _, trivial⟩
  simp only [upds, upd1, Nat.lt_irrefl, if_false] at this
  exact this

theorem adopt_sound : ∀ (ad : List (Nat × Nat)) {s : S} {m : Mp}, Sat c m (lk s.hp) s.tm a w → ∃ m', Sat c m' (lk (adopt ad s).hp) (adopt ad s).tm a w
  | [], s, m, hS => ⟨m, hS⟩
  | (t, z) :: r, s, m, hS => by
    simp only [adopt]
    split
    · rename_i ht
      obtain ⟨rv, hrv, hvr⟩ := tmps_get hS ht
      have G := hS.mem.add (lk_none s.hp) (.row 0 z [] true) 0 (0, 0) (fun g hg => by simp [placeB, setF] at hg) (fun he => ⟨by simp [setF], by simp, by simp, fun h0 => by simp [setF] at h0⟩)
      rw [← lk_push] at G
      have hS1 := hS.of_mem G.1 G.2
      refine adopt_sound r (s := ⟨up s.tm t (some (.row s.hp.length 0 0 0)), s.hp ++ [.row 0 z [] true]⟩) ⟨hS1.mem, hS1.defers, hS1.size, fun t' v hv => ?_⟩
      by_cases e : t' = t
      · subst e
        simp only [up, if_true, Option.some.injEq] at hv
        subst hv
        have : a.tmps.getD t' undef = rv := by simp [Array.getD_eq_getD_getElem?, hrv]
        refine ⟨(Array.getElem?_eq_some_iff.1 hrv).1, ?_⟩
        rw [this]
        cases hvr
        refine .row _ 0 0 0 0 none (by simp [lk]) (fun _ _ _ _ _ => Nat.zero_le _) (Nat.le_refl _) fun z es l hr => ⟨by simp, by simp⟩
      · simp only [up, if_neg e] at hv
        exact hS1.tmps t' v hv
    · exact adopt_sound r hS

/-! ### Code -/
def Ex.exit : Ex → Exit
  | .n => .normal
  | .x id => .exit id
  | .r => .ret
  | .g l => .goto l

/-- What a run may lead to. -/
def Lets (c : Ct) (K : Ex → S → Prop) (Q : Exit → Act → World → Prop) : Prop := ∀ e s a w m, K e s → Sat c m (lk s.hp) s.tm a w → Q e.exit a w

/-- The walk's question is enough for this code. -/
def Fair (x : Cx) (c : Ct) (cd : Code) (body : (Ex → S → Prop) → S → Prop) : Prop := ∀ (K : Ex → S → Prop) (Q : Exit → Act → World → Prop), Lets c K Q → ∀ s a w m, Sat c m (lk s.hp) s.tm a w → body K s → cd.wp c.P Q a w

theorem loop_sound {x : Cx} {cd : Code} {body : (Ex → S → Prop) → S → Prop} (hb : Fair x c cd body) {mk : List Nat} {k : Nat} {K : Ex → S → Prop} {Q : Exit → Act → World → Prop} (hQ : Lets c K Q) {s : S} (hS : Sat c m (lk s.hp) s.tm a w) {lb : Lock body} {lK : Lock K} (hK : wloop (cut mk k) body K s lb lK) : (Code.loop cd).wp c.P Q a w := by
  obtain ⟨n, hn⟩ := hK
  refine wp_loop_ghost (fun n a w => ∃ s m, Sat c m (lk s.hp) s.tm a w ∧ rounds (cut mk k) body K n s) n ⟨s, m, hS, hn⟩ ?_
  rintro n a w ⟨s, m, hS, hr⟩
  cases n with
  | zero => exact hr.elim
  | succ n =>
    refine hb _ _ (fun e s' a' w' m' he hS' => ?_) (cut mk k s) a w m (cut_sound hS) hr
    cases e with
    | n => exact ⟨n, Nat.lt_succ_self _, s', m', hS', he⟩
    | x id => exact hQ _ _ _ _ _ he hS'
    | r => exact hQ _ _ _ _ _ he hS'
    | g l => exact hQ _ _ _ _ _ he hS'

theorem W_sound0 {x : Cx} (E : Env x c) {fl : List Nat} : ∀ (cd : Code) (hs hs' : List Hint) (C : C), tr0 c.n fl cd hs = some (C, hs') → Fair x c cd (W x C) := by
  intro cd
  induction cd with
  | skip =>
    intro hs hs' C ht K Q hQ s a w m hS hK
    simp only [tr0, Option.some.injEq, Prod.mk.injEq] at ht
    obtain ⟨rfl, rfl⟩ := ht
    exact wp_skip (hQ _ _ _ _ _ hK hS)
  | label l =>
    intro hs hs' C ht K Q hQ s a w m hS hK
    simp only [tr0, Option.some.injEq, Prod.mk.injEq] at ht
    obtain ⟨rfl, rfl⟩ := ht
    exact wp_label (hQ _ _ _ _ _ hK hS)
  | region id ops dr =>
    intro hs hs' C ht K Q hQ s a w m hS hK
    have hfin : ∀ (ts : List Nat) (s' : S) (a' : Act) (w' : World) (m' : Mp), K .n ⟨restr s'.tm ts, s'.hp⟩ → Sat c m' (lk s'.hp) s'.tm a' w' → Q .normal a' w' := fun ts s' a' w' m' hk hS' =>
      hQ .n ⟨restr s'.tm ts, s'.hp⟩ a' w' m' hk ⟨hS'.mem, hS'.defers, hS'.size, fun t v ht => hS'.tmps t v (restr_get ts t v ht)⟩
    cases hs with
    | nil => cases dr <;> simp [tr0] at ht
    | cons hh hs =>
    cases dr with
    | false =>
      simp only [tr0, Option.map_eq_some_iff, Prod.mk.injEq] at ht
      obtain ⟨l, hl, rfl, rfl⟩ := ht
      refine wp_region ?_
      rw [W_seq, W_reg] at hK
      simp only [W_keep] at hK
      have := wops_sound E (ops := ops) (K := fun s' => K .n ⟨restr s'.tm hh.kp, s'.hp⟩) (Q := Q) (fun s' a' w' m' hk hS' => hfin hh.kp s' a' w' m' hk hS') ops.toList 0 l s m a w (by simp) hl hS hK
      simpa [List.range_eq_range'] using this
    | true =>
      simp only [tr0] at ht
      split at ht <;> try cases ht
      rename_i hok
      simp only [Option.map_eq_some_iff, Prod.mk.injEq] at ht
      obtain ⟨l, hl, rfl, rfl⟩ := ht
      rw [W_seq, W_draw] at hK
      simp only [W_keep] at hK
      exact draw_sound E E.mixed hok hl (K := fun s' => K .n ⟨restr s'.tm hh.kp, s'.hp⟩) (fun s' a' w' m' hk hS' => hfin hh.kp s' a' w' m' hk hS') hS hK
  | seq y z ihy ihz =>
    intro hs hs' C ht K Q hQ s a w m hS hK
    simp only [tr0] at ht
    split at ht <;> try cases ht
    rename_i a' hs1 h1
    split at ht <;> simp only [Option.some.injEq, Prod.mk.injEq, reduceCtorEq] at ht
    rename_i b' hs2 h2
    obtain ⟨rfl, rfl⟩ := ht
    refine wp_seq (ihy _ _ _ h1 _ _ (fun e s' a' w' m' he hS' => ?_) s a w m hS hK)
    cases e with
    | n => exact ihz _ _ _ h2 K Q hQ s' a' w' m' hS' he
    | x id => exact hQ _ _ _ _ _ he hS'
    | r => exact hQ _ _ _ _ _ he hS'
    | g l => exact hQ _ _ _ _ _ he hS'
  | cond cc y z ihy ihz =>
    intro hs hs' C ht K Q hQ s a w m hS hK
    simp only [tr0] at ht
    split at ht <;> try cases ht
    rename_i a' hs1 h1
    split at ht <;> simp only [Option.some.injEq, Prod.mk.injEq, reduceCtorEq] at ht
    rename_i b' hs2 h2
    obtain ⟨rfl, rfl⟩ := ht
    simp only [W] at hK
    split at hK <;> try exact hK.elim
    rename_i y l hy
    have hv := ev_vr hS hy
    generalize he : a.eval cc = rv at hv
    cases hv with
    | t _ _ _ hr =>
      cases hr
      exact wp_cond_split he (fun hb => ihy _ _ _ h1 K Q hQ s a w m hS (hK.1 hb)) (fun hb => ihz _ _ _ h2 K Q hQ s a w m hS (hK.2 hb))
  | block id y ih =>
    intro hs hs' C ht K Q hQ s a w m hS hK
    simp only [tr0] at ht
    split at ht <;> simp only [Option.some.injEq, Prod.mk.injEq, reduceCtorEq] at ht
    rename_i a' hs1 h1
    obtain ⟨rfl, rfl⟩ := ht
    refine wp_block (ih _ _ _ h1 _ _ (fun e s' a' w' m' he hS' => ?_) s a w m hS hK)
    cases e with
    | n => exact hQ _ _ _ _ _ he hS'
    | x j =>
      simp only at he
      show Exit.inBlock id Q (.exit j) a' w'
      simp only [Exit.inBlock]
      split
      · rename_i hj; rw [if_pos hj] at he; exact hQ .n _ _ _ _ he hS'
      · rename_i hj; rw [if_neg hj] at he; exact hQ (.x j) _ _ _ _ he hS'
    | r => exact hQ _ _ _ _ _ he hS'
    | g l => exact hQ _ _ _ _ _ he hS'
  | loop y ih =>
    intro hs hs' C ht K Q hQ s a w m hS hK
    cases hs with
    | nil => simp [tr0] at ht
    | cons hh hs =>
      simp only [tr0] at ht
      split at ht <;> simp only [Option.some.injEq, Prod.mk.injEq, reduceCtorEq] at ht
      rename_i a' hs1 h1
      obtain ⟨rfl, rfl⟩ := ht
      obtain ⟨m', hS'⟩ := adopt_sound hh.ad hS
      exact loop_sound (ih _ _ _ h1) hQ hS' hK
  | exit id =>
    intro hs hs' C ht K Q hQ s a w m hS hK
    simp only [tr0, Option.some.injEq, Prod.mk.injEq] at ht
    obtain ⟨rfl, rfl⟩ := ht
    exact wp_exit (hQ _ _ _ _ _ hK hS)
  | ret =>
    intro hs hs' C ht K Q hQ s a w m hS hK
    simp only [tr0, Option.some.injEq, Prod.mk.injEq] at ht
    obtain ⟨rfl, rfl⟩ := ht
    exact wp_ret (hQ _ _ _ _ _ hK hS)
  | goto l =>
    intro hs hs' C ht K Q hQ s a w m hS hK
    simp only [tr0, Option.some.injEq, Prod.mk.injEq] at ht
    obtain ⟨rfl, rfl⟩ := ht
    exact wp_goto (hQ _ _ _ _ _ hK hS)
  | _ => intro hs hs' C ht; simp [tr0] at ht

theorem rest_get {x : Cx} {fl : List Nat} {cd : Code} : ∀ (ls : List Nat) (hs hs' : List Hint) (gs : List (Nat × C)), restOf (tr0 c.n fl) cd ls hs = some (gs, hs') → ∀ l b, Ws x gs l = some b → ∃ rest C h1 h2, findLabel cd l = some rest ∧ tr0 c.n fl rest h1 = some (C, h2) ∧ b = W x C
  | [], hs, hs', gs, h => by
    simp only [restOf, Option.some.injEq, Prod.mk.injEq] at h
    obtain ⟨rfl, rfl⟩ := h
    intro l b hb
    simp [Ws] at hb
  | l0 :: ls, hs, hs', gs, h => by
    simp only [restOf] at h
    split at h <;> try cases h
    rename_i rest hf
    split at h <;> try cases h
    rename_i c' hs1 ht
    split at h <;> simp only [Option.some.injEq, Prod.mk.injEq, reduceCtorEq] at h
    rename_i gs' hs2 hr
    obtain ⟨rfl, rfl⟩ := h
    intro l b hb
    simp only [Ws] at hb
    split at hb
    · rename_i e
      subst e
      simp only [Option.some.injEq] at hb
      exact ⟨rest, c', _, _, hf, ht, hb.symm⟩
    · exact rest_get ls hs1 _ gs' hr l b hb

/-- As Q; by a goto: J. -/
def jumpJ (J : Nat → Act → World → Prop) (Q : Exit → Act → World → Prop) : Exit → Act → World → Prop
  | .goto l, a, w => J l a w
  | e, a, w => Q e a w

theorem wp_scope_all {Q : Exit → Act → World → Prop} {cd : Code} (J : Nat → Nat → Act → World → Prop) (first : cd.wp P (jumpJ (fun l a w => ∃ n, J l n a w) Q) a w)
    (pass : ∀ l n a w, J l n a w → ∃ rest, findLabel cd l = some rest ∧ rest.wp P (jumpJ (fun l' a' w' => ∃ n', n' < n ∧ J l' n' a' w') Q) a w) : (Code.scope cd).wp P Q a w := by
  intro b k cs
  have key : ∀ n l a w, J l n a w → ∃ rest, findLabel cd l = some rest ∧ ∃ e a' w', Q e a' w' ∧ Arrives P (lone (b.at a (.code rest :: .inScope cd :: k)) cs w) b k cs e a' w' := by
    intro n
    induction n using Nat.strongRecOn with
    | _ n ih =>
      intro l a w hJ
      obtain ⟨rest, hf, hp⟩ := pass l n a w hJ
      refine ⟨rest, hf, ?_⟩
      obtain ⟨e, a₁, w₁, hq, harr⟩ := hp b (.inScope cd :: k) cs
      cases e with
      | normal => exact ⟨.normal, a₁, w₁, hq, Steps.trans harr (.one step_inScope)⟩
      | exit id => exact ⟨.exit id, a₁, w₁, hq, fun k' hk => harr k' (by simp [exitTo, hk])⟩
      | goto l' =>
        obtain ⟨n', hlt, hJ'⟩ := hq
        obtain ⟨rest', hf', e₂, a₂, w₂, hq₂, harr₂⟩ := ih n' hlt l' a₁ w₁ hJ'
        exact ⟨e₂, a₂, w₂, hq₂, .of_steps (harr _ (by simp [gotoIn, hf'])) harr₂⟩
      | ret => exact ⟨_, a₁, w₁, hq, harr⟩
      | panic ch => exact ⟨_, a₁, w₁, hq, harr⟩
      | outgrown => exact ⟨_, a₁, w₁, hq, harr⟩
  obtain ⟨e, a₁, w₁, hq, harr⟩ := first b (.inScope cd :: k) cs
  cases e with
  | normal => exact ⟨.normal, a₁, w₁, hq, .head step_scope (Steps.trans harr (.one step_inScope))⟩
  | exit id => exact ⟨.exit id, a₁, w₁, hq, fun k' hk => .head step_scope (harr k' (by simp [exitTo, hk]))⟩
  | goto l' =>
    obtain ⟨n, hJ'⟩ := hq
    obtain ⟨rest', hf', e₂, a₂, w₂, hq₂, harr₂⟩ := key n l' a₁ w₁ hJ'
    exact ⟨e₂, a₂, w₂, hq₂, .of_steps (.head step_scope (harr _ (by simp [gotoIn, hf']))) harr₂⟩
  | ret => exact ⟨_, a₁, w₁, hq, .of_steps (.one step_scope) harr⟩
  | panic ch => exact ⟨_, a₁, w₁, hq, .of_steps (.one step_scope) harr⟩
  | outgrown => exact ⟨_, a₁, w₁, hq, .of_steps (.one step_scope) harr⟩

theorem W_sound {x : Cx} (E : Env x c) {fl : List Nat} : ∀ (cd : Code) (hs hs' : List Hint) (C : C), tr c.n fl cd hs = some (C, hs') → Fair x c cd (W x C)
  | .scope cd, hs, hs', C, ht => by
    intro K Q hQ s a w m hS hK
    cases hs with
    | nil => simp [tr, tr0] at ht
    | cons hh hs =>
      simp only [tr] at ht
      split at ht <;> try cases ht
      rename_i c' hs1 h1
      split at ht <;> simp only [Option.some.injEq, Prod.mk.injEq, reduceCtorEq] at ht
      rename_i gs hs2 h2
      obtain ⟨rfl, rfl⟩ := ht
      rw [W_scope] at hK
      obtain ⟨J, hJ1, hJ2⟩ := hK
      refine wp_scope_all (fun l n a w => ∃ s m, Sat c m (lk s.hp) s.tm a w ∧ J l n s) (W_sound0 E cd _ _ _ h1 _ _ (fun e s' a' w' m' he hS' => ?_) s a w m hS hJ1) ?_
      · cases e with
        | n => exact hQ _ _ _ _ _ he hS'
        | x id => exact hQ _ _ _ _ _ he hS'
        | r => exact hQ _ _ _ _ _ he hS'
        | g l =>
          obtain ⟨n, hn⟩ := he
          exact ⟨n, s', m', hS', hn⟩
      · rintro l n a w ⟨s, m, hS, hj⟩
        obtain ⟨k, hk⟩ := hJ2 l n s hj
        split at hk <;> try exact hk.elim
        rename_i b hb
        obtain ⟨rest, C', g1, g2, hf, htr, rfl⟩ := rest_get _ _ _ _ h2 l b hb
        refine ⟨rest, hf, ?_⟩
        obtain ⟨m', hS'⟩ := adopt_sound hh.ad hS
        refine W_sound0 E rest _ _ _ htr _ _ (fun e s' a' w' m' he hS' => ?_) _ a w m' (cut_sound hS') hk
        cases e with
        | n => exact hQ _ _ _ _ _ he hS'
        | x id => exact hQ _ _ _ _ _ he hS'
        | r => exact hQ _ _ _ _ _ he hS'
        | g l' =>
          obtain ⟨n', hlt, hn⟩ := he
          exact ⟨n', hlt, s', m', hS', hn⟩
  | .seq y z, hs, hs', C, ht => by
    intro K Q hQ s a w m hS hK
    simp only [tr] at ht
    split at ht <;> try cases ht
    rename_i a' hs1 h1
    split at ht <;> simp only [Option.some.injEq, Prod.mk.injEq, reduceCtorEq] at ht
    rename_i b' hs2 h2
    obtain ⟨rfl, rfl⟩ := ht
    rw [W_seq] at hK
    refine wp_seq (W_sound E y _ _ _ h1 _ _ (fun e s' a' w' m' he hS' => ?_) s a w m hS hK)
    cases e with
    | n => exact W_sound E z _ _ _ h2 K Q hQ s' a' w' m' hS' he
    | x id => exact hQ _ _ _ _ _ he hS'
    | r => exact hQ _ _ _ _ _ he hS'
    | g l => exact hQ _ _ _ _ _ he hS'
  | .skip, hs, hs', C, ht => W_sound0 E _ hs hs' C (by simpa only [tr] using ht)
  | .region .., hs, hs', C, ht => W_sound0 E _ hs hs' C (by simpa only [tr] using ht)
  | .cond .., hs, hs', C, ht => W_sound0 E _ hs hs' C (by simpa only [tr] using ht)
  | .loop .., hs, hs', C, ht => W_sound0 E _ hs hs' C (by simpa only [tr] using ht)
  | .block .., hs, hs', C, ht => W_sound0 E _ hs hs' C (by simpa only [tr] using ht)
  | .exit .., hs, hs', C, ht => W_sound0 E _ hs hs' C (by simpa only [tr] using ht)
  | .ret, hs, hs', C, ht => W_sound0 E _ hs hs' C (by simpa only [tr] using ht)
  | .label .., hs, hs', C, ht => W_sound0 E _ hs hs' C (by simpa only [tr] using ht)
  | .goto .., hs, hs', C, ht => W_sound0 E _ hs hs' C (by simpa only [tr] using ht)
end
end Go.Proofs.Ytadnjellfiafaaa.Pm
