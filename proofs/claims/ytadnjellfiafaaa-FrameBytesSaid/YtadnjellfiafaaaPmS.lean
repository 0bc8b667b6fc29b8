/- The abstract machine, nineteenth part: what is asked of a run ('W') is enough. No law of Go's is stated here. -/
import Derived.Test.YtadnjellfiafaaaPmRi
import Derived.Deep.LoopGhost
set_option linter.all false
namespace Go.Proofs.Ytadnjellfiafaaa.Pm
open Go Go.RowKit

def fits : Nat → List (Nat × Blk) → Prop
  | _, [] => True
  | n, u :: us => u.1 ≤ n ∧ fits (max n (u.1 + 1)) us

section
variable {P : Program} {w w' : World} {c : Ct} {m m' m1 : Mp} {h h' h1 : H} {ti : Nat → Option TI} {tm : Tm} {a : Act}

theorem lk_upd1 (hp : List Blk) (u : Nat × Blk) (hu : u.1 ≤ hp.length) : lk (upd1 hp u) = setH (lk hp) u.1 u.2 ∧ (upd1 hp u).length = max hp.length (u.1 + 1) := by
  unfold upd1
  by_cases h1 : u.1 < hp.length
  · rw [if_pos h1]
    refine ⟨?_, by simp; omega⟩
    funext i
    by_cases e : i = u.1
    · subst e; simp [lk, setH, h1]
    · simp [lk, setH, e, Ne.symm e]
  · rw [if_neg h1]
    refine ⟨?_, by simp; omega⟩
    funext i
    have hl : u.1 = hp.length := by omega
    by_cases e : i = u.1
    · subst e; simp [lk, setH, hl]
    · simp only [lk, setH, e, if_false]
      rcases Nat.lt_or_ge i hp.length with h | h
      · rw [List.getElem?_append_left h]
      · rw [List.getElem?_append_right h, List.getElem?_eq_none (by simp; omega), List.getElem?_eq_none h]
theorem lk_upds : ∀ (us : List (Nat × Blk)) (hp : List Blk), fits hp.length us → lk (upds hp us) = uH (lk hp) us
  | [], hp, _ => rfl
  | u :: us, hp, hf => by
    obtain ⟨h1, h2⟩ := lk_upd1 hp u hf.1
    rw [upds, uH_cons, ← h1]
    exact lk_upds us _ (by rw [h2]; exact hf.2)
theorem fits_known : ∀ {ids : List Nat} {n : Nat} {us : List (Nat × Blk)}, (∀ i ∈ ids, i < n) → fits n us → fits n (ids.map (fun i => (i, Blk.gone)) ++ us)
  | [], _, _, _, hf => hf
  | i :: ids, n, us, hi, hf => by
    have := hi i (List.mem_cons_self ..)
    refine ⟨by simp; omega, ?_⟩
    simp only
    rw [Nat.max_eq_left (by omega)]
    exact fits_known (fun j hj => hi j (List.mem_cons_of_mem _ hj)) hf
theorem fits_number : ∀ (bs : List Blk) (n : Nat), fits n (number n bs)
  | [], _ => trivial
  | b :: bs, n => ⟨Nat.le_refl _, by simp only; rw [Nat.max_eq_right (by omega)]; exact fits_number bs (n + 1)⟩

theorem lk_none (hp : List Blk) : lk hp hp.length = none := by simp [lk]

/-! ### Calls in a masked sight -/
theorem arg1_sub (hs : Sub h1 h) {v : AV} {y : T} (ha : arg1 h1 v y) : arg1 h v y := by
  cases v <;> simp only [arg1] at ha ⊢ <;> try exact ha
  · obtain ⟨p, h1, h2⟩ := ha; exact ⟨p, elems_sub hs h1, h2⟩
  · obtain ⟨p, h1, h2⟩ := ha; exact ⟨p, elems_sub hs h1, h2⟩
  · obtain ⟨cs, p, h1, h2⟩ := ha; exact ⟨cs, p, varOf_sub hs h1, h2⟩
theorem argCs_sub (hs : Sub h1 h) : ∀ {cs : List AV} {p : List T}, argCs h1 cs p → argCs h cs p
  | [], _, ha => ha
  | v :: vs, p, ha => by
    obtain ⟨y, ys, e, h1, h2⟩ := ha
    exact ⟨y, ys, e, arg1_sub hs h1, argCs_sub hs h2⟩
theorem argOK_sub (hs : Sub h1 h) {v : AV} {y : T} (ha : argOK h1 v y) : argOK h v y := by
  cases v <;> simp only [argOK] at ha ⊢ <;> try exact arg1_sub hs ha
  · obtain ⟨p, h1, h2⟩ := ha; exact ⟨p, h1, argCs_sub hs h2⟩
  · obtain ⟨p, h1, h2⟩ := ha; exact ⟨p, h1, argCs_sub hs h2⟩
theorem argsOK_sub (hs : Sub h1 h) : ∀ {cs : List AV} {p : List T}, argsOK h1 cs p → argsOK h cs p
  | [], _, ha => ha
  | v :: vs, p, ha => by
    obtain ⟨y, ys, e, h1, h2⟩ := ha
    exact ⟨y, ys, e, argOK_sub hs h1, argsOK_sub hs h2⟩

/-- The contracts that a walk leans on hold. -/
structure Env (x : Cx) (c : Ct) : Prop where
  ti : TIok c.P x.ti
  spec : ∀ g ts bs r, x.spec g ts bs r → Spec c.P g ts bs r
  ap : ∀ g xs ts ys, x.specAp g xs ts ys → SpecAp c.P g xs ts ys
  mixed : c.P.follows .mixedOrders = true

/-- What an operation leaves. -/
structure Left (c : Ct) (m : Mp) (h : H) (w : World) (m' : Mp) (us : List (Nat × Blk)) (w' : World) (rv : Value) (v : AV) : Prop where
  ext : Ext m h w m' (uH h us) w'
  mem : Mem c m' (uH h us) w'
  vr : VR m' c.B (uH h us) w' rv v

theorem Left.sat (hS : Sat c m h tm a w) {us : List (Nat × Blk)} {rv : Value} {v : AV} (hl : Left c m h w m' us w' rv v) (d : Option Nat) (hd : ∀ t, d = some t → t < c.n) : Sat c m' (uH h us) (pt tm d (some v)) (a.put d rv) w' :=
  (hS.of_mem hl.ext hl.mem).put d hd hl.vr

/-- What an operation yields. -/
def yields (x : Cx) (tm : Tm) (h : H) (n : Nat) (op : Op) (v : AV) (us : List (Nat × Blk)) : Prop := wq x tm h n op fun v' us' => v' = v ∧ us' = us

theorem yields_of {x : Cx} {tm : Tm} {h : H} {n : Nat} {op : Op} {K : AV → List (Nat × Blk) → Prop} (hK : wq x tm h n op K) : ∃ v us, yields x tm h n op v us ∧ K v us := by
  unfold wq at hK
  split at hK
  · rename_i f as hcall
    split at hK <;> try exact hK.elim
    rename_i g cap vs hf hvs
    obtain ⟨v, us, hC, hk⟩ := hK
    refine ⟨v, us, ?_, hk⟩
    simp only [yields, wq, hcall, hf, hvs]
    exact ⟨v, us, hC, rfl, rfl⟩
  · rename_i hcall
    split at hK <;> try exact hK.elim
    rename_i p v us hq
    refine ⟨v, us, ?_, hK.2⟩
    simp only [yields, wq, hcall, hq, and_self, and_true]
    exact hK.1

theorem called_ids {x : Cx} {h : H} {n g : Nat} {as : List AV} {v : AV} {us : List (Nat × Blk)} (hC : Called x h n g as v us) : ∀ u ∈ us, n ≤ u.1 ∨ isRow h u.1 := by
  cases hC with
  | plain ts bs r ha hs hl =>
    have : ∀ (bs : List Blk) (n : Nat), ∀ u ∈ number n bs, n ≤ u.1 := by
      intro bs
      induction bs with
      | nil => intro n u hu; simp [number] at hu
      | cons b bs ih =>
        intro n u hu
        rcases List.mem_cons.1 hu with rfl | hu
        · exact Nat.le_refl _
        · exact Nat.le_of_succ_le (ih _ u hu)
    exact fun u hu => .inl (this bs n u hu)
  | over id ver len es l as' ts ys e hr _ _ _ _ => simpa using .inr (rowOf_isRow hr)
  | onto as' ts ys e _ _ _ => simp

theorem yields_ids {x : Cx} {tm : Tm} {h : H} {n : Nat} {op : Op} {v : AV} {us : List (Nat × Blk)} (hy : yields x tm h n op v us) : ∀ u ∈ us, n ≤ u.1 ∨ isRow h u.1 := by
  unfold yields wq at hy
  split at hy
  · split at hy <;> try exact hy.elim
    obtain ⟨v', us', hC, rfl, rfl⟩ := hy
    exact called_ids hC
  · split at hy <;> try exact hy.elim
    rename_i p v' us' hq
    obtain ⟨_, rfl, rfl⟩ := hy
    exact fun u hu => ((q_ids hq).1 u hu).imp (fun e => by rw [e]; exact Nat.le_refl _) id

/-- The blocks' numbers go on without a gap. -/
theorem yields_fits {x : Cx} {tm : Tm} {h : H} {n : Nat} (hn : ∀ i b, h i = some b → i < n) {op : Op} {v : AV} {us : List (Nat × Blk)} (hy : yields x tm h n op v us) : fits n us := by
  have key : ∀ (us : List (Nat × Blk)), (∀ u ∈ us, u.1 = n ∨ isRow h u.1) → ∀ k, n ≤ k → fits k us := by
    intro us
    induction us with
    | nil => intros; trivial
    | cons u us ih =>
      intro hu k hk
      refine ⟨?_, ih (fun v hv => hu v (List.mem_cons_of_mem _ hv)) _ (by omega)⟩
      rcases hu u (List.mem_cons_self ..) with e | ⟨_, _, _, _, e⟩
      · omega
      · have := hn _ _ e; omega
  unfold yields wq at hy
  split at hy
  · split at hy <;> try exact hy.elim
    obtain ⟨v', us', hC, rfl, rfl⟩ := hy
    cases hC with
    | plain ts bs r ha hs hl => exact fits_number _ _
    | over id ver len es l as' ts ys e hr _ _ _ _ => exact key _ (by simpa using .inr (rowOf_isRow hr)) n (Nat.le_refl _)
    | onto as' ts ys e _ _ _ => exact key _ (by simp) n (Nat.le_refl _)
  · split at hy <;> try exact hy.elim
    rename_i p v' us' hq
    obtain ⟨_, rfl, rfl⟩ := hy
    exact key _ (q_ids hq).1 n (Nat.le_refl _)

theorem yields_sound {x : Cx} (E : Env x c) {n n' : Nat} (hn' : h n' = none) (hS : Sat c m h tm a w) (hs : Sub h1 h) {o : Oper} {v : AV} {us : List (Nat × Blk)} (hK : yields x tm h1 n o.op v us) (hfr : ∀ u ∈ us, n ≤ u.1 → h u.1 = none) {next : Act → World → Prop} {Q : Exit → Act → World → Prop}
    (hn : ∀ rv w' m', Left c m h w m' us w' rv v → next (a.put o.dst rv) w') : o.wp c.P a w next Q := by
  unfold yields wq at hK
  split at hK
  · rename_i f as hcall
    split at hK <;> try exact hK.elim
    rename_i g cap vs hf hvs
    obtain ⟨v', us', hC, rfl, rfl⟩ := hK
    obtain ⟨dst, op, ty, pos, after, guard⟩ := o
    simp only at hcall
    cases op <;> simp only [callOf, reduceCtorEq] at hcall
    rename_i cl
    obtain ⟨callee, args, tys⟩ := cl
    cases callee <;> simp only [Option.some.injEq, Prod.mk.injEq, reduceCtorEq] at hcall
    obtain ⟨rfl, rfl⟩ := hcall
    rename_i fo
    have hfv := ev_vr hS hf
    generalize hfe : a.eval fo = rf at hfv
    obtain ⟨hl1, hg1⟩ := evs_vr hS hvs
    cases hfv with
    | fn _ caps _ hcs hcv =>
    have hbody : ∃ fn c', c.P.funcs[g]? = some fn ∧ fn.body = some c' ∧ fn.name ≠ "runtime.NumGoroutine" := by
      cases hC with
      | plain ts bs r ha hsp hl => exact (E.spec _ _ _ _ hsp).body
      | over id ver len es l as' ts ys e hr hlen hne ha hsp => exact (E.ap _ _ _ _ hsp).body
      | onto as' ts ys e hne ha hsp => exact (E.ap _ _ _ _ hsp).body
    obtain ⟨fn, bd, hfn, hbd, hname⟩ := hbody
    have hrun : (execOp a.eval { dst, op := .call { callee := .value fo, args := args, argTypes := tys }, type := ty, pos, after, guard }).run c.P w = .ok (.enter g (args.map a.eval ++ caps)) w := by
      simp only [execOp, resolve, hfe, Deferred.ofValue, Sem.run_bind, Sem.run_pure, Result.andThen_ok, invoke]
      simp [callFunc, hfn, hname, hbd]
    unfold Oper.wp
    rw [hrun, Oper.upon_enter]
    have hsz : (args.map a.eval ++ caps).size = (vs ++ cap).length := by simp at hl1 ⊢; omega
    have hargs : ∀ (j : Nat) (v : Value) (x : AV), (args.map a.eval ++ caps)[j]? = some v → (vs ++ cap)[j]? = some x → VR m c.B h w v x := fun j v x hv hx => by
      rcases Nat.lt_or_ge j vs.length with hj | hj
      · rw [List.getElem?_append_left hj] at hx
        have hsz : j < (args.map a.eval).size := by simp at hl1 ⊢; omega
        rw [Array.getElem?_append_left hsz] at hv
        exact hg1 j v x (by rw [← Array.toList_map]; simpa using hv) hx
      · rw [List.getElem?_append_right hj] at hx
        have hsz : (args.map a.eval).size = vs.length := by simp at hl1 ⊢; omega
        rw [Array.getElem?_append_right (by omega), hsz] at hv
        exact hcv _ v x hv hx
    have hc : Calls c.P g (args.map a.eval ++ caps) w fun
      | .returned rv, w' => ∃ m', Ext m h w m' (uH h us') w' ∧ Mem c m' (uH h us') w' ∧ VR m' c.B (uH h us') w' rv v'
      | _, _ => False := by
      cases hC with
      | plain ts bs r ha hsp hl =>
        refine called_sound hS.mem (fun i hi1 hi2 => ?_) (argsOK_sub hs ha) (E.spec _ _ _ _ hsp) hl hsz hargs
        have hmem : ∀ (bs : List Blk) (n : Nat), n ≤ i → i < n + bs.length → ∃ b, (i, b) ∈ number n bs := by
          intro bs
          induction bs with
          | nil => intro n h1 h2; simp at h2; omega
          | cons b bs ih =>
            intro n h1 h2
            by_cases e : i = n
            · exact ⟨b, by rw [e]; exact List.mem_cons_self ..⟩
            · obtain ⟨b', hb'⟩ := ih (n + 1) (by omega) (by simp at h2; omega)
              exact ⟨b', List.mem_cons_of_mem _ hb'⟩
        obtain ⟨b, hb⟩ := hmem bs n hi1 hi2
        exact hfr _ hb hi1
      | over id ver len es l as' ts ys e hr hlen hne ha hsp =>
        rw [e] at hsz hargs
        exact over_sound hS.mem (rowOf_sub hs hr) hlen hne (argsOK_sub hs ha) (E.ap _ _ _ _ hsp) (by simpa using hsz) hargs
      | onto as' ts ys e hne ha hsp =>
        rw [e] at hsz hargs
        exact onto_sound hS.mem (hfr _ (List.mem_singleton.2 rfl) (Nat.le_refl _)) hne (argsOK_sub hs ha) (E.ap _ _ _ _ hsp) (by simpa using hsz) hargs
    refine hc.mono fun e w' he => ?_
    cases e with
    | panicked _ => exact he.elim
    | outgrown => exact he.elim
    | returned rv =>
      obtain ⟨m', h1, h2, h3⟩ := he
      exact hn rv w' m' ⟨h1, h2, h3⟩
  · split at hK <;> try exact hK.elim
    rename_i p v' us' hq
    obtain ⟨hp', rfl, rfl⟩ := hK
    obtain ⟨k, hk, hqk⟩ : ∃ k, h k = none ∧ q x.ti tm h1 k o.op = some (p, v', us') := by
      rcases (q_ids hq).2 with ⟨b, hb⟩ | hall
      · exact ⟨n, hfr _ hb (Nat.le_refl _), hq⟩
      · exact ⟨n', hn', hall n'⟩
    obtain ⟨rv, w', m', hrun, h1, h2, h3⟩ := q_sound E.ti hS hs hk hqk hp'
    unfold Oper.wp
    rw [hrun, Oper.upon_value]
    exact hn rv w' m' ⟨h1, h2, h3⟩

theorem lk_bound {hp : List Blk} : ∀ i b, lk hp i = some b → i < hp.length := fun _ _ hi => lk_lt hi
theorem sub_bound {hp : List Blk} (hs : Sub h1 (lk hp)) : ∀ i b, h1 i = some b → i < hp.length := fun i b hi => lk_lt (hs i b hi)

theorem wq_sound {x : Cx} (E : Env x c) {hp : List Blk} (hS : Sat c m (lk hp) tm a w) (hs : Sub h1 (lk hp)) {o : Oper} {K : AV → List (Nat × Blk) → Prop} (hK : wq x tm h1 hp.length o.op K) {next : Act → World → Prop} {Q : Exit → Act → World → Prop}
    (hn : ∀ v us rv w' m', K v us → fits hp.length us → Left c m (lk hp) w m' us w' rv v → next (a.put o.dst rv) w') : o.wp c.P a w next Q := by
  obtain ⟨v, us, hy, hk⟩ := yields_of hK
  exact yields_sound E (lk_none hp) hS hs hy (fun u _ hle => List.getElem?_eq_none hle) fun rv w' m' hl => hn v us rv w' m' hk (yields_fits (sub_bound hs) hy) hl

theorem wex_sound {x : Cx} (E : Env x c) {s : S} (hS : Sat c m (lk s.hp) s.tm a w) {o : Oper} (hd : ∀ t, o.dst = some t → t < c.n) {i : I} (hi : i.d = o.dst) (ho : i.op = o.op) {K : S → Prop} (hK : wex x i s K) {next : Act → World → Prop} {Q : Exit → Act → World → Prop}
    (hn : ∀ s' a' w' m', K s' → Sat c m' (lk s'.hp) s'.tm a' w' → next a' w') : o.wp c.P a w next Q := by
  unfold wex at hK
  split at hK
  · split at hK <;> try exact hK.elim
    rename_i p s' hq
    rw [hi, ho] at hq
    obtain ⟨nx, w', hrun, hc⟩ := qst_sound (tm := s.tm) E.ti hS hd hq hK.1
    unfold Oper.wp
    rw [hrun]
    rcases hc with ⟨rfl, hS'⟩ | ⟨v, rfl, hS'⟩
    · exact hn _ _ _ _ hK.2 hS'
    · exact hn _ _ _ _ hK.2 hS'
  · rw [ho, hi] at hK
    refine wq_sound E hS (fun _ _ h => h) hK fun v us rv w' m' hk hf hl => ?_
    refine hn _ _ _ m' hk ?_
    rw [lk_upds us s.hp hf]
    exact hl.sat hS o.dst hd

theorem tmps_get (hS : Sat c m h tm a w) {t : Nat} {v : AV} (hv : gt tm t = some v) : ∃ rv, a.tmps[t]? = some rv ∧ VR m c.B h w rv v := by
  obtain ⟨hlt, hv'⟩ := hS.tmps t v (gt_some hv)
  exact ⟨a.tmps[t], by simp [hlt], by simpa [Array.getD, hlt] using hv'⟩

theorem dstIn_spec {n : Nat} {o : Oper} (h : dstIn n o = true) : ∀ t, o.dst = some t → t < n := fun t ht => by
  unfold dstIn at h
  rw [ht] at h
  simpa using h

theorem wops_sound {x : Cx} (E : Env x c) {ops : Array Oper} {K : S → Prop} {Q : Exit → Act → World → Prop} (hn : ∀ s' a' w' m', K s' → Sat c m' (lk s'.hp) s'.tm a' w' → Q .normal a' w') :
    ∀ (r : List Oper) (k : Nat) (l : List I) (s : S) (m : Mp) (a : Act) (w : World), ops.toList.drop k = r → trIs c.n ops.toList r = some l → Sat c m (lk s.hp) s.tm a w → wops x l s K → wpOps c.P ops Q (List.range' k r.length) a w
  | [], k, l, s, m, a, w, hd, ht, hS, hK => by
    simp [trIs] at ht
    subst ht
    exact hn _ _ _ _ hK hS
  | o :: r, k, l, s, m, a, w, hd, ht, hS, hK => by
    simp only [trIs] at ht
    split at ht <;> simp only [Option.some.injEq, reduceCtorEq] at ht
    rename_i i is hi his
    subst ht
    have hget : ops[k]? = some o := by
      have : ops.toList[k]? = some o := by
        have := congrArg (fun l => l[0]?) hd
        simpa using this
      simpa using this
    have hd' : ops.toList.drop (k + 1) = r := by
      rw [← List.drop_drop, hd]
      rfl
    have ih := fun s m a w => wops_sound E hn r (k + 1) is s m a w hd' his
    simp only [List.length_cons, List.range'_succ, wpOps, hget]
    unfold trI at hi
    split at hi <;> try cases hi
    rename_i hdi
    have hdst := dstIn_spec hdi
    cases hg : o.guard with
    | none =>
      rw [hg] at hi
      simp only [Option.some.injEq] at hi
      subst hi
      simp only [wops] at hK
      rw [if_pos (by simp [Region.wanted, hg])]
      exact .inl (wex_sound E hS hdst rfl rfl hK fun s' a' w' m' hk hS' => ih s' m' a' w' hS' hk)
    | some gw =>
      obtain ⟨j, want⟩ := gw
      rw [hg] at hi
      simp only at hi
      split at hi <;> simp only [Option.some.injEq, reduceCtorEq] at hi
      rename_i t ht
      subst hi
      simp only [wops] at hK
      have hput : ∀ m a w, Sat c m (lk s.hp) s.tm a w → Sat c m (lk s.hp) (pt s.tm o.dst (some (.tup []))) (a.put o.dst undef) w := fun m a w h => h.put o.dst hdst (.tup #[] [] rfl (by simp))
      split at hK <;> try exact hK.elim
      rotate_left
      · rename_i hy
        obtain ⟨rv, hrv, hvr⟩ := tmps_get hS hy
        have hyv : yielded ops a.tmps j = none := by
          unfold dstAt at ht
          have ht' : (ops[j]?).bind (·.dst) = some t := by simpa using ht
          unfold yielded
          rw [ht']
          simp only [Option.bind_some, hrv]
          cases hvr
          rfl
        have hw : Region.wanted o (yielded ops a.tmps) = false := by
          unfold Region.wanted
          rw [hg]
          simp only [hyv]
          rfl
        rw [hw]
        exact ih ⟨_, _⟩ m _ w (hput m a w hS) hK
      rename_i y lb hy
      obtain ⟨rv, hrv, hvr⟩ := tmps_get hS hy
      have hyv : yielded ops a.tmps j = some y := by
        unfold dstAt at ht
        have ht' : (ops[j]?).bind (·.dst) = some t := by simpa using ht
        unfold yielded
        rw [ht']
        simp only [Option.bind_some, hrv]
        cases hvr with
        | t _ _ _ hr => cases hr; rfl
      have hw : Region.wanted o (yielded ops a.tmps) = (y == want) := by
        unfold Region.wanted
        rw [hg]
        simp only [hyv]
        cases y <;> cases want <;> rfl
      rw [hw]
      cases hb : (y == want) with
      | true => exact .inl (wex_sound E hS hdst rfl rfl (hK.1 hb) fun s' a' w' m' hk hS' => ih s' m' a' w' hS' hk)
      | false => exact ih ⟨_, _⟩ m _ w (hput m a w hS) (hK.2 hb)
end
end Go.Proofs.Ytadnjellfiafaaa.Pm
