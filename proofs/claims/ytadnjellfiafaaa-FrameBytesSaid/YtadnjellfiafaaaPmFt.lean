/- The abstract machine: a statement whose order Go leaves open: one walk in the order of the text serves every order. No law of Go's is stated here. -/
import Derived.Test.YtadnjellfiafaaaPmS
import Derived.Orders
set_option linter.all false
namespace Go.Proofs.Ytadnjellfiafaaa.Pm
open Go Go.RowKit

/-! ### An operation looks at the blocks that its operands lead to -/
theorem rowOf_at {h h' : H} {id : Nat} (e : h id = h' id) (ver : Nat) : rowOf h id ver = rowOf h' id ver := by unfold rowOf; rw [e]
theorem varOf_at {h h' : H} {id : Nat} (e : h id = h' id) : varOf h id = varOf h' id := by unfold varOf; rw [e]
def Same (l : List Nat) (h h' : H) : Prop := ∀ id ∈ l, h id = h' id
theorem Same.mono {l l' : List Nat} {h h' : H} (hs : Same l h h') (hl : ∀ i ∈ l', i ∈ l) : Same l' h h' := fun i hi => hs i (hl i hi)
theorem elems_foot {h h' : H} {v : AV} (hs : Same v.id1 h h') : elems h v = elems h' v := by
  cases v
  case t x l => cases x <;> rfl
  all_goals simp only [elems]
  case row id ver off len => rw [rowOf_at (hs id (by simp [AV.id1]))]
  case vs id off len z => rw [varOf_at (hs id (by simp [AV.id1]))]
theorem id1_ids {v : AV} : ∀ i ∈ v.id1, i ∈ v.ids := fun i hi => by
  cases v <;> first | exact hi | (simp [AV.id1] at hi)
theorem id1_id2 {v : AV} : ∀ i ∈ v.id1, i ∈ v.id2 := fun i hi => by
  cases v <;> first | exact hi | (simp [AV.id1] at hi)
theorem id1s_id2s : ∀ {vs : List AV}, ∀ i ∈ id1s vs, i ∈ id2s vs
  | v :: vs, i, hi => by
    rcases List.mem_append.1 hi with hi | hi
    · exact List.mem_append_left _ (id1_id2 i hi)
    · exact List.mem_append_right _ (id1s_id2s i hi)
theorem id2_ids {v : AV} : ∀ i ∈ v.id2, i ∈ v.ids := fun i hi => by
  cases v <;> first | exact hi | exact id1s_id2s i hi
theorem id1s_t (l : Bool) : ∀ (xs : List T), id1s (xs.map (AV.t · l)) = []
  | [] => rfl
  | x :: xs => by simp only [List.map_cons, id1s, AV.id1, List.nil_append]; exact id1s_t l xs
theorem emb_foot {h h' : H} {v : AV} (hs : Same v.id1 h h') : emb h v = emb h' v := by
  cases v <;> simp only [emb]
  case row id ver off len => rw [rowOf_at (hs id (by simp [AV.id1]))]
theorem embs_foot {h h' : H} : ∀ {vs : List AV}, Same (id1s vs) h h' → embs h vs = embs h' vs
  | [], _ => rfl
  | v :: vs, hs => by
    simp only [embs]
    rw [emb_foot (hs.mono fun i hi => List.mem_append_left _ hi), embs_foot (hs.mono fun i hi => List.mem_append_right _ hi)]
theorem cells_ids {v : AV} {cs : List AV} (hc : v.cells = some cs) : ∀ i ∈ id1s cs, i ∈ v.ids := fun i hi => by
  cases v
  case agg cs' => simp only [AV.cells, Option.some.injEq] at hc; subst hc; exact hi
  case t x l =>
    cases x <;> simp only [AV.cells, Option.some.injEq, reduceCtorEq] at hc <;> subst hc
    all_goals first
      | (rw [id1s_t] at hi; cases hi; done)
      | (simp [id1s, AV.id1] at hi; done)
  all_goals first
    | (simp only [AV.cells, Option.some.injEq] at hc; subst hc; simp only [id1s, List.append_nil] at hi; exact id1_ids i hi)
    | (simp only [AV.cells, Option.some.injEq] at hc; subst hc; simp [id1s, AV.id1] at hi; done)
    | (simp [AV.cells] at hc; done)
theorem fillS_foot {h h' : H} {tm : Tm} {z : Nat} : ∀ {ps : List (Nat × Operand)} {es : List (List T)}, Same (idsPs tm ps) h h' → fillS h tm z ps es = fillS h' tm z ps es
  | [], _, _ => rfl
  | (k, o) :: ps, es, hs => by
    simp only [fillS]
    cases hv : ev tm o with
    | none => rfl
    | some v =>
      simp only
      cases hc : v.cells with
      | none => rfl
      | some cs =>
        simp only
        have e1 : embs h cs = embs h' cs := embs_foot (hs.mono fun i hi => List.mem_append_left _ (by rw [hv]; exact cells_ids hc i hi))
        have e2 := fun es => fillS_foot (z := z) (es := es) (hs.mono (l' := idsPs tm ps) fun i hi => List.mem_append_right _ hi)
        rw [e1]
        simp only [e2]
theorem qLoad_foot {ti : Nat → Option TI} {h h' : H} {t : Nat} {v : AV} (hs : Same v.ids h h') : qLoad ti h t v = qLoad ti h' t v := by
  unfold qLoad
  cases ti t with
  | none => rfl
  | some i =>
    cases v
    case t x l => cases x <;> rfl
    case ptr id off => simp only [varOf_at (hs id (by simp [AV.ids, AV.id1]))]
    case eptr id ver i j => simp only [rowOf_at (hs id (by simp [AV.ids, AV.id1]))]
    all_goals rfl
theorem qSlice_foot {ti : Nat → Option TI} {tm : Tm} {h h' : H} {t : Nat} {v : AV} {lo hi mx : Option Operand} (hs : Same v.ids h h') : qSlice ti tm h t v lo hi mx = qSlice ti tm h' t v lo hi mx := by
  unfold qSlice
  cases v
  case t x l => cases x <;> rfl
  case ptr id off => simp only [varOf_at (hs id (by simp [AV.ids, AV.id1]))]
  case row id ver off len => simp only [rowOf_at (hs id (by simp [AV.ids, AV.id1]))]
  all_goals rfl
theorem qIxA_foot {ti : Nat → Option TI} {h h' : H} {t : Nat} {v : AV} {p : Int} (hs : Same v.ids h h') : qIxA ti h t v p = qIxA ti h' t v p := by
  unfold qIxA
  cases v
  case t x l => cases x <;> rfl
  case row id ver off len => simp only [rowOf_at (hs id (by simp [AV.ids, AV.id1]))]
  all_goals rfl
theorem qAppend_foot {ti : Nat → Option TI} {h h' : H} {n t : Nat} {v u : AV} (h1 : Same v.ids h h') (h2 : Same u.ids h h') : qAppend ti h n t v u = qAppend ti h' n t v u := by
  unfold qAppend
  rw [elems_foot (h2.mono id1_ids)]
  cases elemOfS ti t with
  | none => rfl
  | some i =>
    cases elems h' u with
    | none => rfl
    | some p =>
      cases v
      case t x l => cases x <;> rfl
      case row id ver off len => simp only [rowOf_at (h1 id (by simp [AV.ids, AV.id1]))]
      all_goals rfl
theorem evs_ids {tm : Tm} : ∀ {l : List Operand} {vs : List AV}, evs tm l = some vs → ∀ v ∈ vs, ∀ i ∈ v.ids, i ∈ idsOs tm l
  | [], vs, h => by simp [evs] at h; subst h; simp
  | o :: l, vs, h => by
    simp only [evs] at h
    split at h <;> simp only [Option.some.injEq, reduceCtorEq] at h
    rename_i v vs' h1 h2
    subst h
    intro u hu i hi
    simp only [idsOs]
    rcases List.mem_cons.1 hu with rfl | hu
    · exact List.mem_append_left _ (by rw [h1]; exact hi)
    · exact List.mem_append_right _ (evs_ids h2 u hu i hi)
theorem q_foot {ti : Nat → Option TI} {tm : Tm} {h h' : H} {n : Nat} {op : Op} (hs : Same (foot tm op) h h') : q ti tm h n op = q ti tm h' n op := by
  cases op <;> simp only [foot] at hs <;> simp only [q]
  case load t a =>
    cases hv : ev tm a with
    | none => rfl
    | some v => exact qLoad_foot (by rw [hv] at hs; exact hs)
  case slice t a lo hi mx =>
    cases hv : ev tm a with
    | none => rfl
    | some v => exact qSlice_foot (by rw [hv] at hs; exact hs)
  case indexAddr t a b =>
    cases hv : ev tm a with
    | none => rfl
    | some v =>
      cases ev tm b with
      | none => rfl
      | some u =>
        cases u <;> try rfl
        rename_i x l
        cases x <;> try rfl
        exact qIxA_foot (by rw [hv] at hs; exact hs)
  case convert src dst a =>
    cases hv : ev tm a with
    | none =>
      cases ti src with
      | none => rfl
      | some i =>
        cases ti dst with
        | none => rfl
        | some j =>
          obtain ⟨d, _, _, _⟩ := i
          obtain ⟨d', _, _, _⟩ := j
          cases d <;> cases d' <;> rfl
    | some v =>
      rw [hv] at hs
      have e : emb h v = emb h' v := emb_foot (hs.mono id1_ids)
      cases v
      case row id ver off len =>
        cases ti src with
        | none => rfl
        | some i =>
          cases ti dst with
          | none => rfl
          | some j =>
            obtain ⟨d, _, _, _⟩ := i
            obtain ⟨d', _, _, _⟩ := j
            cases d <;> cases d' <;> first | rfl | simp only [e]
      case t x l =>
        cases ti src with
        | none => rfl
        | some i =>
          cases ti dst with
          | none => rfl
          | some j =>
            obtain ⟨d, _, _, _⟩ := i
            obtain ⟨d', _, _, _⟩ := j
            cases x <;> cases d <;> cases d' <;> rfl
      all_goals
        (cases ti src with
        | none => rfl
        | some i =>
          cases ti dst with
          | none => rfl
          | some j =>
            obtain ⟨d, _, _, _⟩ := i
            obtain ⟨d', _, _, _⟩ := j
            cases d <;> cases d' <;> rfl)
  case buildSlice t len ps =>
    have e := fun z es => fillS_foot (z := z) (es := es) hs
    simp only [e]
  case call cl =>
    obtain ⟨callee, args, tys⟩ := cl
    cases callee <;> simp only
    rename_i b
    cases hv : evs tm args.toList with
    | none => rfl
    | some vs =>
      simp only
      have hids := evs_ids hv
      have hs' : ∀ v ∈ vs, Same v.ids h h' := fun v hm i hi => hs i (by simpa using hids v hm i hi)
      cases b <;> try rfl
      simp only [qBuiltin]
      split
      · split
        · exact qAppend_foot (hs' _ (by simp)) (hs' _ (by simp))
        · rfl
      · rfl
theorem arg1_foot {h h' : H} {v : AV} {y : T} (hs : Same v.id1 h h') : arg1 h v y = arg1 h' v y := by
  cases v <;> simp only [arg1]
  case row id ver off len => rw [elems_foot hs]
  case vs id off len z => rw [elems_foot hs]
  case ptr id off => rw [varOf_at (hs id (by simp [AV.id1]))]
theorem argCs_foot {h h' : H} : ∀ {cs : List AV} {p : List T}, Same (id1s cs) h h' → argCs h cs p → argCs h' cs p
  | [], _, _, ha => ha
  | v :: vs, p, hs, ha => by
    obtain ⟨y, ys, e, h1, h2⟩ := ha
    exact ⟨y, ys, e, by rw [← arg1_foot (hs.mono fun i hi => List.mem_append_left _ hi)]; exact h1, argCs_foot (hs.mono fun i hi => List.mem_append_right _ hi) h2⟩
theorem argOK_foot {h h' : H} {v : AV} {y : T} (hs : Same v.id2 h h') (ha : argOK h v y) : argOK h' v y := by
  cases v <;> simp only [argOK] at ha ⊢
  case agg cs => obtain ⟨p, e, h1⟩ := ha; exact ⟨p, e, argCs_foot hs h1⟩
  case fn f cs => obtain ⟨p, e, h1⟩ := ha; exact ⟨p, e, argCs_foot hs h1⟩
  all_goals (rw [← arg1_foot (hs.mono id1_id2)]; exact ha)
theorem argsOK_foot {h h' : H} : ∀ {vs : List AV} {p : List T}, (∀ v ∈ vs, Same v.id2 h h') → argsOK h vs p → argsOK h' vs p
  | [], _, _, ha => ha
  | v :: vs, p, hs, ha => by
    obtain ⟨y, ys, e, h1, h2⟩ := ha
    exact ⟨y, ys, e, argOK_foot (hs v (List.mem_cons_self ..)) h1, argsOK_foot (fun u hu => hs u (List.mem_cons_of_mem _ hu)) h2⟩
theorem called_foot {x : Cx} {h h' : H} {n g : Nat} {as : List AV} (hs : ∀ v ∈ as, Same v.id2 h h') {v : AV} {us : List (Nat × Blk)} (hC : Called x h n g as v us) : Called x h' n g as v us := by
  cases hC with
  | plain ts bs r ha hsp hl => exact .plain ts bs r (argsOK_foot hs ha) hsp hl
  | over id ver len es l as' ts ys e hr hlen hne ha hsp =>
    subst e
    exact .over id ver len es l as' ts ys rfl (by rw [← rowOf_at (hs _ (List.mem_cons_self ..) id (by simp [AV.id2, AV.id1]))]; exact hr) hlen hne (argsOK_foot (fun u hu => hs u (List.mem_cons_of_mem _ hu)) ha) hsp
  | onto as' ts ys e hne ha hsp =>
    subst e
    exact .onto as' ts ys rfl hne (argsOK_foot (fun u hu => hs u (List.mem_cons_of_mem _ hu)) ha) hsp
theorem id2s_mem : ∀ {cs : List AV} {v : AV}, v ∈ cs → ∀ i ∈ v.id2, i ∈ id2s cs
  | c :: cs, v, hv, i, hi => by
    simp only [id2s]
    rcases List.mem_cons.1 hv with rfl | hv
    · exact List.mem_append_left _ hi
    · exact List.mem_append_right _ (id2s_mem hv i hi)
theorem yields_foot {x : Cx} {tm : Tm} {h h' : H} {n : Nat} {op : Op} {v : AV} {us : List (Nat × Blk)} (hs : Same (foot tm op) h h') (hy : yields x tm h n op v us) : yields x tm h' n op v us := by
  unfold yields wq at hy ⊢
  rw [← q_foot hs]
  cases hc : callOf op with
  | none => rw [hc] at hy; exact hy
  | some p =>
    obtain ⟨f, as⟩ := p
    rw [hc] at hy
    cases op <;> simp only [callOf, reduceCtorEq] at hc
    rename_i cl
    obtain ⟨callee, args, tys⟩ := cl
    cases callee <;> simp only [Option.some.injEq, Prod.mk.injEq, reduceCtorEq] at hc
    obtain ⟨rfl, rfl⟩ := hc
    rename_i f
    simp only at hy ⊢
    simp only [foot] at hs
    split at hy <;> try exact hy.elim
    rename_i g cap vs hf hvs
    obtain ⟨v', us', hC, e⟩ := hy
    refine ⟨v', us', called_foot (fun u hu i hi => ?_) hC, e⟩
    rcases List.mem_append.1 hu with hu | hu
    · exact hs i (List.mem_append_right _ (evs_ids hvs u hu i (id2_ids i hi)))
    · exact hs i (List.mem_append_left _ (by rw [hf]; exact id2s_mem hu i hi))
theorem qw_foot {ti : Nat → Option TI} {tm : Tm} {h h' : H} {d : Option Nat} {op : Op} (hs : Same (foot tm op) h h') : qw ti tm h d op = qw ti tm h' d op := by
  cases op <;> simp only [foot] at hs <;> simp only [qw]
  case store t a b =>
    cases d with
    | some d => rfl
    | none =>
      cases ha : ev tm a with
      | none => rfl
      | some p =>
        cases hb : ev tm b with
        | none => rfl
        | some u =>
          rw [ha, hb] at hs
          have : qStore ti h t p u = qStore ti h' t p u := by
            unfold qStore
            cases ti t with
            | none => rfl
            | some i =>
              cases u.cells with
              | none => rfl
              | some cs =>
                cases p
                case t x l => rfl
                case ptr id off => simp only [varOf_at (hs id (by simp [idsO, AV.ids, AV.id1]))]
                case eptr id ver i j => simp only [rowOf_at (hs id (by simp [idsO, AV.ids, AV.id1]))]
                all_goals rfl
          simp only [this]
  case call cl =>
    obtain ⟨callee, args, tys⟩ := cl
    cases callee <;> try rfl
    rename_i b
    cases b <;> try rfl
    simp only
    cases hv : evs tm args.toList with
    | none => rfl
    | some vs =>
      have hids := evs_ids hv
      have hs' : ∀ v ∈ vs, Same v.ids h h' := fun v hm i hi => hs i (by simpa using hids v hm i hi)
      match vs, hs' with
      | [], _ => rfl
      | [_], _ => rfl
      | _ :: _ :: _ :: _, _ => rfl
      | [p, u], hs' =>
        have key : ∀ t, qCopy ti h t p u = qCopy ti h' t p u := fun t => by
          unfold qCopy
          rw [elems_foot ((hs' u (by simp)).mono id1_ids)]
          cases p
          case vs id off len z =>
            cases elems h' u with
            | none => rfl
            | some r =>
              obtain ⟨xs, l⟩ := r
              cases elemOfS ti t with
              | none => rfl
              | some i => simp only [varOf_at (h := h) (h' := h') (id := id) (hs' _ (List.mem_cons_self ..) id (by simp [AV.ids, AV.id1]))]
          all_goals rfl
        cases tys.toList with
        | nil => rfl
        | cons t ts =>
          cases ts with
          | nil => rfl
          | cons t' ts =>
            cases ts with
            | nil => simp only [key t]
            | cons _ _ => rfl
/-- What is written is one of the blocks that are looked at. -/
theorem qw_some {ti : Nat → Option TI} {tm : Tm} {h : H} {d : Option Nat} {op : Op} {p : Prop} {v : Option AV} {id : Nat} {b : Blk} (hq : qw ti tm h d op = some (p, v, id, b)) : (h id).isSome = true := by
  have hv : ∀ {id : Nat} {cs : List AV}, varOf h id = some cs → (h id).isSome = true := fun {id cs} e => by
    unfold varOf at e
    split at e <;> try cases e
    rename_i e'; rw [e']; rfl
  have hr : ∀ {id ver : Nat} {r : Nat × List (List T) × Bool}, rowOf h id ver = some r → (h id).isSome = true := fun {id ver r} e => by
    obtain ⟨z, es, l⟩ := r
    rw [rowOf_some e]; rfl
  cases op <;> simp only [qw, reduceCtorEq] at hq
  case store t a b =>
    split at hq <;> try (cases hq; done)
    split at hq <;> simp only [Option.some.injEq, Prod.mk.injEq, reduceCtorEq] at hq
    rename_i hqs
    obtain ⟨rfl, rfl, rfl, rfl⟩ := hq
    unfold qStore at hqs
    split at hqs <;> try (cases hqs; done)
    split at hqs <;> try (cases hqs; done)
    · split at hqs <;> simp only [Option.some.injEq, Prod.mk.injEq, reduceCtorEq] at hqs
      rename_i e
      obtain ⟨_, rfl, _⟩ := hqs
      exact hv e
    · split at hqs <;> simp only [Option.some.injEq, Prod.mk.injEq, reduceCtorEq] at hqs
      rename_i e _
      obtain ⟨_, rfl, _⟩ := hqs
      exact hr e
  case call cl =>
    split at hq <;> try (cases hq; done)
    split at hq <;> simp only [Option.some.injEq, Prod.mk.injEq, reduceCtorEq] at hq
    rename_i hqc
    obtain ⟨rfl, rfl, rfl, rfl⟩ := hq
    unfold qCopy at hqc
    split at hqc <;> try (cases hqc; done)
    split at hqc <;> simp only [Option.some.injEq, Prod.mk.injEq, reduceCtorEq] at hqc
    rename_i e
    obtain ⟨_, _, rfl, _⟩ := hqc
    exact hv e
end Go.Proofs.Ytadnjellfiafaaa.Pm
