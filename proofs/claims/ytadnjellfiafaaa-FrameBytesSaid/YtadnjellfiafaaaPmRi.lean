/- The abstract machine: which blocks an operation makes anew. No law of Go's is stated here. -/
import Derived.Test.YtadnjellfiafaaaPmR
set_option linter.all false
namespace Go.Proofs.Ytadnjellfiafaaa.Pm
open Go Go.RowKit

/-! ### Which blocks an operation makes anew -/
def isRow (h : H) (id : Nat) : Prop := ∃ v z es l, h id = some (.row v z es l)

theorem rowOf_isRow {h : H} {id ver : Nat} {r : Nat × List (List T) × Bool} (hr : rowOf h id ver = some r) : isRow h id := by
  obtain ⟨z, es, l⟩ := r
  exact ⟨_, _, _, _, rowOf_some hr⟩
theorem emb_ids {h : H} {v : AV} {x : T} {l : Bool} {us : List (Nat × Blk)} (he : emb h v = some (x, l, us)) : ∀ u ∈ us, isRow h u.1 := by
  cases v <;> simp only [emb, Option.some.injEq, Prod.mk.injEq, reduceCtorEq] at he
  case t => obtain ⟨_, _, rfl⟩ := he; simp
  case nl => obtain ⟨_, _, rfl⟩ := he; simp
  case e0 => obtain ⟨_, _, rfl⟩ := he; simp
  case row id ver off len =>
    split at he <;> try cases he
    rename_i hr
    split at he <;> simp only [Option.some.injEq, Prod.mk.injEq, reduceCtorEq] at he
    obtain ⟨_, _, rfl⟩ := he
    simpa using rowOf_isRow hr
theorem embs_ids {h : H} : ∀ {vs : List AV} {xs : List T} {l : Bool} {us : List (Nat × Blk)}, embs h vs = some (xs, l, us) → ∀ u ∈ us, isRow h u.1
  | [], xs, l, us, he => by simp [embs] at he; obtain ⟨_, _, rfl⟩ := he; simp
  | v :: vs, xs, l, us, he => by
    simp only [embs] at he
    split at he <;> simp only [Option.some.injEq, Prod.mk.injEq, reduceCtorEq] at he
    rename_i h1 h2
    obtain ⟨_, _, rfl⟩ := he
    intro u hu
    rcases List.mem_append.1 hu with hu | hu
    · exact emb_ids h1 u hu
    · exact embs_ids h2 u hu
theorem fillS_ids {h : H} {tm : Tm} {z : Nat} : ∀ {ps : List (Nat × Operand)} {es es' : List (List T)} {l : Bool} {us : List (Nat × Blk)}, fillS h tm z ps es = some (es', l, us) → ∀ u ∈ us, isRow h u.1
  | [], es, es', l, us, he => by simp [fillS] at he; obtain ⟨_, _, rfl⟩ := he; simp
  | (k, x) :: ps, es, es', l, us, he => by
    simp only [fillS] at he
    split at he <;> try cases he
    split at he <;> try cases he
    split at he <;> try cases he
    rename_i h1
    split at he <;> try cases he
    split at he <;> simp only [Option.some.injEq, Prod.mk.injEq, reduceCtorEq] at he
    rename_i h2
    obtain ⟨_, _, rfl⟩ := he
    intro u hu
    rcases List.mem_append.1 hu with hu | hu
    · exact embs_ids h1 u hu
    · exact fillS_ids h2 u hu


theorem atT_us {l : Bool} {o : Option T} {p : Prop} {v : AV} {us : List (Nat × Blk)} (h : atT l o = some (p, v, us)) : us = [] := by
  simp only [atT, Option.some.injEq, Prod.mk.injEq] at h; exact h.2.2.symm
theorem atA_us {o : Option AV} {p : Prop} {v : AV} {us : List (Nat × Blk)} (h : atA o = some (p, v, us)) : us = [] := by
  simp only [atA, Option.some.injEq, Prod.mk.injEq] at h; exact h.2.2.symm
theorem okR_us {x : AV} {p : Prop} {v : AV} {us : List (Nat × Blk)} (h : okR x = some (p, v, us)) : us = [] := by
  simp only [okR, Option.some.injEq, Prod.mk.injEq] at h; exact h.2.2.symm
theorem partA_us {i : TI} {cs : List AV} {o : Nat} {p : Prop} {v : AV} {us : List (Nat × Blk)} (h : partA i cs o = some (p, v, us)) : us = [] := by
  unfold partA at h
  split at h
  · simp only [Option.some.injEq, Prod.mk.injEq] at h; exact h.2.2.symm
  · exact atA_us h
theorem partT_us {i : TI} {cs : List T} {o : Nat} {l : Bool} {p : Prop} {v : AV} {us : List (Nat × Blk)} (h : partT i cs o l = some (p, v, us)) : us = [] := by
  unfold partT at h
  split at h
  · simp only [Option.some.injEq, Prod.mk.injEq] at h; exact h.2.2.symm
  · exact atT_us h
theorem qLoad_us {ti : Nat → Option TI} {h1 : H} {t : Nat} {x : AV} {p : Prop} {v : AV} {us : List (Nat × Blk)} (h : qLoad ti h1 t x = some (p, v, us)) : us = [] := by
  unfold qLoad at h
  split at h <;> try (cases h; done)
  · split at h <;> try (cases h; done)
    exact partA_us h
  · exact partT_us h
  · split at h <;> try (cases h; done)
    split at h <;> simp only [Option.some.injEq, Prod.mk.injEq, reduceCtorEq] at h
    rename_i hp
    have := partT_us hp
    rw [← h.2.2]; exact this
theorem qSlice_us {ti : Nat → Option TI} {tm : Tm} {h1 : H} {t : Nat} {x : AV} {lo hi mx : Option Operand} {p : Prop} {v : AV} {us : List (Nat × Blk)} (h : qSlice ti tm h1 t x lo hi mx = some (p, v, us)) : us = [] := by
  unfold qSlice at h
  dsimp only at h
  repeat' split at h
  all_goals first
    | (cases h; done)
    | (simp only [Option.some.injEq, Prod.mk.injEq] at h; exact h.2.2.symm)
theorem qIxA_us {ti : Nat → Option TI} {h1 : H} {t : Nat} {x : AV} {k : Int} {p : Prop} {v : AV} {us : List (Nat × Blk)} (h : qIxA ti h1 t x k = some (p, v, us)) : us = [] := by
  unfold qIxA at h
  split at h <;> try (cases h; done)
  all_goals (split at h <;> simp only [Option.some.injEq, Prod.mk.injEq, reduceCtorEq] at h <;> exact h.2.2.symm)
theorem qLen_us {ti : Nat → Option TI} {t : Nat} {x : AV} {p : Prop} {v : AV} {us : List (Nat × Blk)} (h : qLen ti t x = some (p, v, us)) : us = [] := by
  unfold qLen at h
  split at h <;> try (cases h; done)
  · exact okR_us h
  · split at h <;> try (cases h; done)
    exact okR_us h
theorem qAppend_us {ti : Nat → Option TI} {h1 : H} {n t : Nat} {x y : AV} {p : Prop} {v : AV} {us : List (Nat × Blk)} (h : qAppend ti h1 n t x y = some (p, v, us)) :
    (∀ u ∈ us, u.1 = n ∨ isRow h1 u.1) ∧ ((∃ b, (n, b) ∈ us) ∨ ∀ n', qAppend ti h1 n' t x y = some (p, v, us)) := by
  unfold qAppend at h ⊢
  split at h <;> try (cases h; done)
  split at h
  · simp only [Option.some.injEq, Prod.mk.injEq] at h
    obtain ⟨_, _, rfl⟩ := h
    exact ⟨by simp, .inl ⟨_, List.mem_singleton.2 rfl⟩⟩
  · simp only [Option.some.injEq, Prod.mk.injEq] at h
    obtain ⟨_, _, rfl⟩ := h
    exact ⟨by simp, .inl ⟨_, List.mem_singleton.2 rfl⟩⟩
  · split at h <;> simp only [Option.some.injEq, Prod.mk.injEq, reduceCtorEq] at h
    rename_i hr
    obtain ⟨h1, h2, rfl⟩ := h
    refine ⟨by simpa using .inr (rowOf_isRow hr), .inr fun n' => ?_⟩
    simp only [Option.some.injEq, Prod.mk.injEq]
    exact ⟨h1, h2, trivial⟩
  · cases h

theorem q_none {ti : Nat → Option TI} {tm : Tm} {h1 : H} {n : Nat} {op : Op} {us : List (Nat × Blk)} (hu : us = []) (hst : ∀ n', q ti tm h1 n' op = q ti tm h1 n op) {p : Prop} {v : AV} (hq : q ti tm h1 n op = some (p, v, us)) :
    (∀ u ∈ us, u.1 = n ∨ isRow h1 u.1) ∧ ((∃ b, (n, b) ∈ us) ∨ ∀ n', q ti tm h1 n' op = some (p, v, us)) := by
  subst hu
  exact ⟨by simp, .inr fun n' => (hst n').trans hq⟩

/-- An operation's blocks: the new one, or rows. And one that makes none does not look at the new number. -/
theorem q_ids {ti : Nat → Option TI} {tm : Tm} {h1 : H} {n : Nat} {op : Op} {p : Prop} {v : AV} {us : List (Nat × Blk)} (hq : q ti tm h1 n op = some (p, v, us)) :
    (∀ u ∈ us, u.1 = n ∨ isRow h1 u.1) ∧ ((∃ b, (n, b) ∈ us) ∨ ∀ n', q ti tm h1 n' op = some (p, v, us)) := by
  have hq0 := hq
  cases op <;> simp only [q, reduceCtorEq] at hq
  case move a =>
    split at hq <;> try (cases hq; done)
    exact q_none (okR_us hq) (fun _ => rfl) hq0
  case assign a =>
    split at hq <;> try (cases hq; done)
    exact q_none (okR_us hq) (fun _ => rfl) hq0
  case pick c a b =>
    split at hq <;> try (cases hq; done)
    split at hq <;> try (cases hq; done)
    exact q_none (okR_us hq) (fun _ => rfl) hq0
  case alloc e =>
    split at hq <;> simp only [Option.some.injEq, Prod.mk.injEq, reduceCtorEq] at hq
    obtain ⟨_, _, rfl⟩ := hq
    exact ⟨by simp, .inl ⟨_, List.mem_singleton.2 rfl⟩⟩
  case box e a =>
    split at hq <;> try (cases hq; done)
    split at hq <;> simp only [Option.some.injEq, Prod.mk.injEq, reduceCtorEq] at hq
    obtain ⟨_, _, rfl⟩ := hq
    exact ⟨by simp, .inl ⟨_, List.mem_singleton.2 rfl⟩⟩
  case build t ps =>
    split at hq <;> try (cases hq; done)
    split at hq <;> simp only [Option.some.injEq, Prod.mk.injEq, reduceCtorEq] at hq
    exact q_none hq.2.2.symm (fun _ => rfl) hq0
  case buildSlice t len ps =>
    split at hq <;> try (cases hq; done)
    split at hq <;> simp only [Option.some.injEq, Prod.mk.injEq, reduceCtorEq] at hq
    rename_i hf
    obtain ⟨_, _, rfl⟩ := hq
    refine ⟨fun u hu => ?_, .inl ⟨_, List.mem_append_right _ (List.mem_singleton.2 rfl)⟩⟩
    rcases List.mem_append.1 hu with hu | hu
    · exact .inr (fillS_ids hf u hu)
    · simp at hu; exact .inl (by rw [hu])
  case load t a =>
    split at hq <;> try (cases hq; done)
    exact q_none (qLoad_us hq) (fun _ => rfl) hq0
  case nilCheck a =>
    split at hq <;> try (cases hq; done)
    all_goals exact q_none (okR_us hq) (fun _ => rfl) hq0
  case binOp o t a b u =>
    split at hq <;> try (cases hq; done)
    split at hq
    · simp only [Option.some.injEq, Prod.mk.injEq] at hq
      exact q_none hq.2.2.symm (fun _ => rfl) hq0
    · split at hq <;> try (cases hq; done)
      split at hq <;> simp only [Option.some.injEq, Prod.mk.injEq, reduceCtorEq] at hq
      exact q_none hq.2.2.symm (fun _ => rfl) hq0
  case unOp o t a =>
    split at hq <;> try (cases hq; done)
    split at hq <;> try (cases hq; done)
    exact q_none (okR_us hq) (fun _ => rfl) hq0
  case convert s d a =>
    split at hq <;> try (cases hq; done)
    · exact q_none (okR_us hq) (fun _ => rfl) hq0
    · split at hq <;> simp only [Option.some.injEq, Prod.mk.injEq, reduceCtorEq] at hq
      exact q_none hq.2.2.symm (fun _ => rfl) hq0
    · split at hq <;> simp only [Option.some.injEq, Prod.mk.injEq, reduceCtorEq] at hq
      rename_i he
      obtain ⟨_, _, rfl⟩ := hq
      exact ⟨fun u hu => .inr (emb_ids he u hu), .inr fun n' => hq0⟩
  case makeFunc f a cap =>
    split at hq <;> try (cases hq; done)
    exact q_none (okR_us hq) (fun _ => rfl) hq0
  case makeSlice t a b =>
    split at hq <;> simp only [Option.some.injEq, Prod.mk.injEq, reduceCtorEq] at hq
    obtain ⟨_, _, rfl⟩ := hq
    exact ⟨by simp, .inl ⟨_, List.mem_singleton.2 rfl⟩⟩
  case slice t a lo hi mx =>
    split at hq <;> try (cases hq; done)
    exact q_none (qSlice_us hq) (fun _ => rfl) hq0
  case fieldAddr t a f =>
    split at hq <;> try (cases hq; done)
    all_goals (simp only [Option.some.injEq, Prod.mk.injEq] at hq; exact q_none hq.2.2.symm (fun _ => rfl) hq0)
  case field t a f =>
    split at hq <;> try (cases hq; done)
    · exact q_none (partT_us hq) (fun _ => rfl) hq0
    · exact q_none (partA_us hq) (fun _ => rfl) hq0
  case indexAddr t a b =>
    split at hq <;> try (cases hq; done)
    exact q_none (qIxA_us hq) (fun _ => rfl) hq0
  case index t a b =>
    split at hq <;> try (cases hq; done)
    · split at hq <;> simp only [Option.some.injEq, Prod.mk.injEq, reduceCtorEq] at hq
      rename_i hp
      have := partT_us hp
      exact q_none (by rw [← hq.2.2]; exact this) (fun _ => rfl) hq0
    · split at hq <;> simp only [Option.some.injEq, Prod.mk.injEq, reduceCtorEq] at hq
      rename_i hp
      have := partA_us hp
      exact q_none (by rw [← hq.2.2]; exact this) (fun _ => rfl) hq0
  case extract a k =>
    split at hq <;> try (cases hq; done)
    · exact q_none (atT_us hq) (fun _ => rfl) hq0
    · exact q_none (atA_us hq) (fun _ => rfl) hq0
  case call cl =>
    obtain ⟨callee, args, tys⟩ := cl
    cases callee <;> simp only [reduceCtorEq] at hq
    rename_i b
    split at hq <;> try (cases hq; done)
    rename_i vs hvs
    have same : ∀ n', q ti tm h1 n' (.call ⟨.builtin b, args, tys⟩) = qBuiltin ti h1 n' b tys.toList vs := fun n' => by
      simp only [q, hvs]
    cases b <;> simp only [qBuiltin, reduceCtorEq] at hq
    case len =>
      split at hq <;> try (cases hq; done)
      exact q_none (qLen_us hq) (fun n' => by rw [same, same]; rfl) hq0
    case cap =>
      split at hq <;> try (cases hq; done)
      all_goals (split at hq <;> try (cases hq; done))
      all_goals exact q_none (okR_us hq) (fun n' => by rw [same, same]; rfl) hq0
    case min =>
      split at hq <;> try (cases hq; done)
      exact q_none (okR_us hq) (fun n' => by rw [same, same]; rfl) hq0
    case max =>
      split at hq <;> try (cases hq; done)
      exact q_none (okR_us hq) (fun n' => by rw [same, same]; rfl) hq0
    case append =>
      split at hq <;> try (cases hq; done)
      split at hq <;> try (cases hq; done)
      · rename_i hty
        obtain ⟨g1, g2⟩ := qAppend_us hq
        clear hq0
        refine ⟨g1, g2.imp id fun g n' => ?_⟩
        rename_i hts
        rw [same, hts, hty]
        simp only [qBuiltin, if_true]
        rw [hty] at g
        exact g n'
      · unfold qGrow at hq
        split at hq <;> simp only [Option.some.injEq, Prod.mk.injEq, reduceCtorEq] at hq
        obtain ⟨_, _, rfl⟩ := hq
        exact ⟨by simp, .inl ⟨_, List.mem_singleton.2 rfl⟩⟩
end Go.Proofs.Ytadnjellfiafaaa.Pm
