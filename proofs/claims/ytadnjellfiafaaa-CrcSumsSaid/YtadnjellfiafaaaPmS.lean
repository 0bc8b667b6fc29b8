/- The abstract machine, nineteenth part: what is asked of a run ('W') is enough. No law of Go's is stated here. -/
import Derived.Test.YtadnjellfiafaaaPmR
import Derived.Deep.LoopGhost
set_option linter.all false
namespace Go.Proofs.Ytadnjellfiafaaa.Pm
open Go Go.RowKit

def fits : Nat → List (Nat × Blk) → Prop
  | _, [] => True
  | n, u :: us => u.1 ≤ n ∧ fits (max n (u.1 + 1)) us

section
variable {P : Program} {w w' : World} {c : Ct} {m m' m1 : Mp} {h h' h1 : H} {ti : Nat → Option TI} {tm : Tm} {a : Act}

theorem lk_upd1 (hp : List Blk) (u : Nat × Blk) (hu : u.1 ≤ hp.length) : lk (upd1 hp u) = setH (lk hp) u.1 u.2 ∧ (upd1 hp u).length = max hp.length (u.1 + 1) := by
  unfold upd1
  by_cases h1 : u.1 < hp.length
  · rw [if_pos h1]
    refine ⟨?_, by simp; omega⟩
    funext i
    by_cases e : i = u.1
    · subst e; simp [lk, setH, h1]
    · simp [lk, setH, e, Ne.symm e]
  · rw [if_neg h1]
    refine ⟨?_, by simp; omega⟩
    funext i
    have hl : u.1 = hp.length := by omega
    by_cases e : i = u.1
    · subst e; simp [lk, setH, hl]
    · simp only [lk, setH, e, if_false]
      rcases Nat.lt_or_ge i hp.length with h | h
      · rw [List.getElem?_append_left h]
      · rw [List.getElem?_append_right h, List.getElem?_eq_none (by simp; omega), List.getElem?_eq_none h]
theorem lk_upds : ∀ (us : List (Nat × Blk)) (hp : List Blk), fits hp.length us → lk (upds hp us) = uH (lk hp) us
  | [], hp, _ => rfl
  | u :: us, hp, hf => by
    obtain ⟨h1, h2⟩ := lk_upd1 hp u hf.1
    rw [upds, uH_cons, ← h1]
    exact lk_upds us _ (by rw [h2]; exact hf.2)
theorem fits_known : ∀ {ids : List Nat} {n : Nat} {us : List (Nat × Blk)}, (∀ i ∈ ids, i < n) → fits n us → fits n (ids.map (fun i => (i, Blk.gone)) ++ us)
  | [], _, _, _, hf => hf
  | i :: ids, n, us, hi, hf => by
    have := hi i (List.mem_cons_self ..)
    refine ⟨by simp; omega, ?_⟩
    simp only
    rw [Nat.max_eq_left (by omega)]
    exact fits_known (fun j hj => hi j (List.mem_cons_of_mem _ hj)) hf
theorem fits_number : ∀ (bs : List Blk) (n : Nat), fits n (number n bs)
  | [], _ => trivial
  | b :: bs, n => ⟨Nat.le_refl _, by simp only; rw [Nat.max_eq_right (by omega)]; exact fits_number bs (n + 1)⟩

theorem lk_none (hp : List Blk) : lk hp hp.length = none := by simp [lk]

theorem q_fits (hP : TIok P ti) (hS : Sat c m h tm a w) (hs : Sub h1 h) {n : Nat} (hn : ∀ i b, h i = some b → i < n) {o : Oper} {p : Prop} {v : AV} {us : List (Nat × Blk)} (hq : q ti tm h1 n o.op = some (p, v, us)) (hp : p) : fits n us := by
  by_cases ho : still o.op = true
  · obtain ⟨rfl, _⟩ := q_still hP hS hs ho hq hp
    trivial
  obtain ⟨dst, op, ty, pos, after, guard⟩ := o
  simp only at ho hq ⊢
  cases op <;> simp only [still, not_true, Bool.false_eq_true, not_false_eq_true, q, reduceCtorEq] at ho hq
  case alloc e =>
    split at hq <;> simp only [Option.some.injEq, Prod.mk.injEq, reduceCtorEq] at hq
    obtain ⟨rfl, rfl, rfl⟩ := hq
    exact ⟨Nat.le_refl _, trivial⟩
  case box e x =>
    split at hq <;> try cases hq
    split at hq <;> simp only [Option.some.injEq, Prod.mk.injEq, reduceCtorEq] at hq
    obtain ⟨rfl, rfl, rfl⟩ := hq
    exact ⟨Nat.le_refl _, trivial⟩
  case build t ps =>
    split at hq <;> try cases hq
    split at hq <;> simp only [Option.some.injEq, Prod.mk.injEq, reduceCtorEq] at hq
    obtain ⟨rfl, rfl, rfl⟩ := hq
    trivial
  case buildSlice t len ps =>
    split at hq <;> try cases hq
    rename_i i hi
    split at hq <;> simp only [Option.some.injEq, Prod.mk.injEq, reduceCtorEq] at hq
    rename_i es l u hf
    obtain ⟨rfl, rfl, rfl⟩ := hq
    obtain ⟨et, hut, hT⟩ := elemOfS_some hP hi
    obtain ⟨inf, zv, hinf, hzv, hsz, hnb, hzs, _, hzl, hzr⟩ := zero_cells (m := m) (c := c) (h := h) (w := w) hT
    have hrow0 : RowR w (gok m c.w0.heap.size [] true) i.sz (madeCells zv.cells (len * i.sz)) (List.replicate len i.z) := by
      refine ⟨by simp [size_madeCells], fun k e he => ?_, zeros_row zv.cells hzs hzl (hzr _) len len (Nat.le_refl _) hp.2⟩
      rw [List.getElem?_replicate] at he
      split at he <;> simp only [Option.some.injEq, reduceCtorEq] at he
      rw [← he]; exact hzl
    obtain ⟨ids, hids, hidk, _⟩ := fillS_sound hS hs i.sz ps.toList _ _ _ [] true hrow0 (fillS_sub hs hf)
    simp only at hids
    subst hids
    refine fits_known (fun j hj => ?_) ⟨Nat.le_refl _, trivial⟩
    obtain ⟨ver, z, es, l, hh⟩ := hidk j hj
    exact hn _ _ hh
  case makeSlice t x y =>
    split at hq <;> simp only [Option.some.injEq, Prod.mk.injEq, reduceCtorEq] at hq
    obtain ⟨rfl, rfl, rfl⟩ := hq
    exact ⟨Nat.le_refl _, trivial⟩
  case convert src dst x =>
    split at hq <;> try cases hq
    · trivial
    · split at hq <;> simp only [Option.some.injEq, Prod.mk.injEq, reduceCtorEq] at hq
      obtain ⟨rfl, rfl, rfl⟩ := hq
      trivial
  case call cl =>
    obtain ⟨callee, args, tys⟩ := cl
    cases callee <;> simp only [reduceCtorEq] at hq
    rename_i b
    split at hq <;> try cases hq
    cases b <;> simp only [still, not_true, qBuiltin, reduceCtorEq] at hq ho
    split at hq <;> try cases hq
    split at hq <;> try cases hq
    unfold qAppend at hq
    split at hq <;> try cases hq
    split at hq
    · simp only [Option.some.injEq, Prod.mk.injEq] at hq
      obtain ⟨rfl, rfl, rfl⟩ := hq
      exact ⟨Nat.le_refl _, trivial⟩
    · simp only [Option.some.injEq, Prod.mk.injEq] at hq
      obtain ⟨rfl, rfl, rfl⟩ := hq
      exact ⟨Nat.le_refl _, trivial⟩
    · split at hq <;> simp only [Option.some.injEq, Prod.mk.injEq, reduceCtorEq] at hq
      rename_i hr
      obtain ⟨rfl, rfl, rfl⟩ := hq
      have := hn _ _ (rowOf_some (rowOf_sub hs hr))
      exact ⟨by simp only; omega, trivial⟩
    · cases hq

/-! ### Calls in a masked sight -/
theorem arg1_sub (hs : Sub h1 h) {v : AV} {y : T} (ha : arg1 h1 v y) : arg1 h v y := by
  cases v <;> simp only [arg1] at ha ⊢ <;> try exact ha
  · obtain ⟨p, h1, h2⟩ := ha; exact ⟨p, elems_sub hs h1, h2⟩
  · obtain ⟨p, h1, h2⟩ := ha; exact ⟨p, elems_sub hs h1, h2⟩
  · obtain ⟨cs, p, h1, h2⟩ := ha; exact ⟨cs, p, varOf_sub hs h1, h2⟩
theorem argCs_sub (hs : Sub h1 h) : ∀ {cs : List AV} {p : List T}, argCs h1 cs p → argCs h cs p
  | [], _, ha => ha
  | v :: vs, p, ha => by
    obtain ⟨y, ys, e, h1, h2⟩ := ha
    exact ⟨y, ys, e, arg1_sub hs h1, argCs_sub hs h2⟩
theorem argOK_sub (hs : Sub h1 h) {v : AV} {y : T} (ha : argOK h1 v y) : argOK h v y := by
  cases v <;> simp only [argOK] at ha ⊢ <;> try exact arg1_sub hs ha
  · obtain ⟨p, h1, h2⟩ := ha; exact ⟨p, h1, argCs_sub hs h2⟩
  · obtain ⟨p, h1, h2⟩ := ha; exact ⟨p, h1, argCs_sub hs h2⟩
theorem argsOK_sub (hs : Sub h1 h) : ∀ {cs : List AV} {p : List T}, argsOK h1 cs p → argsOK h cs p
  | [], _, ha => ha
  | v :: vs, p, ha => by
    obtain ⟨y, ys, e, h1, h2⟩ := ha
    exact ⟨y, ys, e, argOK_sub hs h1, argsOK_sub hs h2⟩

/-- The contracts that a walk leans on hold. -/
structure Env (x : Cx) (c : Ct) : Prop where
  ti : TIok c.P x.ti
  spec : ∀ g ts bs r, x.spec g ts bs r → Spec c.P g ts bs r

/-- What an operation leaves. -/
structure Left (c : Ct) (m : Mp) (h : H) (w : World) (m' : Mp) (us : List (Nat × Blk)) (w' : World) (rv : Value) (v : AV) : Prop where
  ext : Ext m h w m' (uH h us) w'
  mem : Mem c m' (uH h us) w'
  vr : VR m' c.w0.heap.size (uH h us) w' rv v

theorem Left.sat (hS : Sat c m h tm a w) {us : List (Nat × Blk)} {rv : Value} {v : AV} (hl : Left c m h w m' us w' rv v) (d : Option Nat) (hd : ∀ t, d = some t → t < c.n) : Sat c m' (uH h us) (pt tm d (some v)) (a.put d rv) w' :=
  (hS.of_mem hl.ext hl.mem).put d hd hl.vr

theorem wq_sound {x : Cx} (E : Env x c) {hp : List Blk} (hS : Sat c m (lk hp) tm a w) (hs : Sub h1 (lk hp)) {o : Oper} {K : AV → List (Nat × Blk) → Prop} (hK : wq x tm h1 hp.length o.op K) {next : Act → World → Prop} {Q : Exit → Act → World → Prop}
    (hn : ∀ v us rv w' m', K v us → fits hp.length us → Left c m (lk hp) w m' us w' rv v → next (a.put o.dst rv) w') : o.wp c.P a w next Q := by
  have hlt : ∀ i b, lk hp i = some b → i < hp.length := fun i b hi => lk_lt hi
  unfold wq at hK
  split at hK
  · rename_i f as hcall
    split at hK <;> try exact hK.elim
    rename_i g cap vs hf hvs
    obtain ⟨v, us, hC, hk⟩ := hK
    cases hC with
    | plain ts bs r ha hsp hl =>
    have hsp := E.spec _ _ _ _ hsp
    obtain ⟨dst, op, ty, pos, after, guard⟩ := o
    simp only at hcall
    cases op <;> simp only [callOf, reduceCtorEq] at hcall
    rename_i cl
    obtain ⟨callee, args, tys⟩ := cl
    cases callee <;> simp only [Option.some.injEq, Prod.mk.injEq, reduceCtorEq] at hcall
    obtain ⟨rfl, rfl⟩ := hcall
    rename_i fo
    have hfv := ev_vr hS hf
    generalize hfe : a.eval fo = rf at hfv
    obtain ⟨hl1, hg1⟩ := evs_vr hS hvs
    cases hfv with
    | fn _ caps _ hcs hcv =>
    obtain ⟨fn, bd, hfn, hbd, hname⟩ := hsp.body
    have hrun : (execOp a.eval { dst, op := .call { callee := .value fo, args := args, argTypes := tys }, type := ty, pos, after, guard }).run c.P w = .ok (.enter g (args.map a.eval ++ caps)) w := by
      simp only [execOp, resolve, hfe, Deferred.ofValue, Sem.run_bind, Sem.run_pure, Result.andThen_ok, invoke]
      simp [callFunc, hfn, hname, hbd]
    unfold Oper.wp
    rw [hrun, Oper.upon_enter]
    have hc := called_sound hS.mem (fun i hi _ => List.getElem?_eq_none hi) (argsOK_sub hs ha) hsp hl (args := args.map a.eval ++ caps) (by simp at hl1 ⊢; omega) (fun j v x hv hx => by
      rcases Nat.lt_or_ge j vs.length with hj | hj
      · rw [List.getElem?_append_left hj] at hx
        have hsz : j < (args.map a.eval).size := by simp at hl1 ⊢; omega
        rw [Array.getElem?_append_left hsz] at hv
        exact hg1 j v x (by rw [← Array.toList_map]; simpa using hv) hx
      · rw [List.getElem?_append_right hj] at hx
        have hsz : (args.map a.eval).size = vs.length := by simp at hl1 ⊢; omega
        rw [Array.getElem?_append_right (by omega), hsz] at hv
        exact hcv _ v x hv hx)
    refine hc.mono fun e w' he => ?_
    cases e with
    | panicked _ => exact he.elim
    | outgrown => exact he.elim
    | returned rv =>
      obtain ⟨m', h1, h2, h3⟩ := he
      exact hn _ _ rv w' m' hk (fits_number _ _) ⟨h1, h2, h3⟩
  · split at hK <;> try exact hK.elim
    rename_i p v us hq
    obtain ⟨hp', hk⟩ := hK
    obtain ⟨rv, w', m', hrun, h1, h2, h3⟩ := q_sound E.ti hS hs (lk_none hp) hq hp'
    unfold Oper.wp
    rw [hrun, Oper.upon_value]
    exact hn _ _ rv w' m' hk (q_fits E.ti hS hs hlt hq hp') ⟨h1, h2, h3⟩

theorem wex_sound {x : Cx} (E : Env x c) {s : S} (hS : Sat c m (lk s.hp) s.tm a w) {o : Oper} (hd : ∀ t, o.dst = some t → t < c.n) {i : I} (hi : i.d = o.dst) (ho : i.op = o.op) {K : S → Prop} (hK : wex x i s K) {next : Act → World → Prop} {Q : Exit → Act → World → Prop}
    (hn : ∀ s' a' w' m', K s' → Sat c m' (lk s'.hp) s'.tm a' w' → next a' w') : o.wp c.P a w next Q := by
  unfold wex at hK
  split at hK
  · split at hK <;> try exact hK.elim
    rename_i p s' hq
    rw [hi, ho] at hq
    obtain ⟨_, nx, w', hrun, _, _, hc⟩ := qst_sound E.ti hS hd hq hK.1
    unfold Oper.wp
    rw [hrun]
    rcases hc with ⟨rfl, hS'⟩ | ⟨v, rfl, hS'⟩
    · exact hn _ _ _ _ hK.2 hS'
    · exact hn _ _ _ _ hK.2 hS'
  · rw [ho, hi] at hK
    refine wq_sound E hS (fun _ _ h => h) hK fun v us rv w' m' hk hf hl => ?_
    refine hn _ _ _ m' hk ?_
    rw [lk_upds us s.hp hf]
    exact hl.sat hS o.dst hd

theorem tmps_get (hS : Sat c m h tm a w) {t : Nat} {v : AV} (hv : gt tm t = some v) : ∃ rv, a.tmps[t]? = some rv ∧ VR m c.w0.heap.size h w rv v := by
  obtain ⟨hlt, hv'⟩ := hS.tmps t v (gt_some hv)
  exact ⟨a.tmps[t], by simp [hlt], by simpa [Array.getD, hlt] using hv'⟩

theorem dstIn_spec {n : Nat} {o : Oper} (h : dstIn n o = true) : ∀ t, o.dst = some t → t < n := fun t ht => by
  unfold dstIn at h
  rw [ht] at h
  simpa using h

theorem wops_sound {x : Cx} (E : Env x c) {ops : Array Oper} {K : S → Prop} {Q : Exit → Act → World → Prop} (hn : ∀ s' a' w' m', K s' → Sat c m' (lk s'.hp) s'.tm a' w' → Q .normal a' w') :
    ∀ (r : List Oper) (k : Nat) (l : List I) (s : S) (m : Mp) (a : Act) (w : World), ops.toList.drop k = r → trIs c.n ops.toList r = some l → Sat c m (lk s.hp) s.tm a w → wops x l s K → wpOps c.P ops Q (List.range' k r.length) a w
  | [], k, l, s, m, a, w, hd, ht, hS, hK => by
    simp [trIs] at ht
    subst ht
    exact hn _ _ _ _ hK hS
  | o :: r, k, l, s, m, a, w, hd, ht, hS, hK => by
    simp only [trIs] at ht
    split at ht <;> simp only [Option.some.injEq, reduceCtorEq] at ht
    rename_i i is hi his
    subst ht
    have hget : ops[k]? = some o := by
      have : ops.toList[k]? = some o := by
        have := congrArg (fun l => l[0]?) hd
        simpa using this
      simpa using this
    have hd' : ops.toList.drop (k + 1) = r := by
      rw [← List.drop_drop, hd]
      rfl
    have ih := fun s m a w => wops_sound E hn r (k + 1) is s m a w hd' his
    simp only [List.length_cons, List.range'_succ, wpOps, hget]
    unfold trI at hi
    split at hi <;> try cases hi
    rename_i hdi
    have hdst := dstIn_spec hdi
    cases hg : o.guard with
    | none =>
      rw [hg] at hi
      simp only [Option.some.injEq] at hi
      subst hi
      simp only [wops] at hK
      rw [if_pos (by simp [Region.wanted, hg])]
      exact .inl (wex_sound E hS hdst rfl rfl hK fun s' a' w' m' hk hS' => ih s' m' a' w' hS' hk)
    | some gw =>
      obtain ⟨j, want⟩ := gw
      rw [hg] at hi
      simp only at hi
      split at hi <;> simp only [Option.some.injEq, reduceCtorEq] at hi
      rename_i t ht
      subst hi
      simp only [wops] at hK
      split at hK <;> try exact hK.elim
      rename_i y lb hy
      obtain ⟨rv, hrv, hvr⟩ := tmps_get hS hy
      have hyv : yielded ops a.tmps j = some y := by
        unfold dstAt at ht
        have ht' : (ops[j]?).bind (·.dst) = some t := by simpa using ht
        unfold yielded
        rw [ht']
        simp only [Option.bind_some, hrv]
        cases hvr with
        | t _ _ _ hr => cases hr; rfl
      have hw : Region.wanted o (yielded ops a.tmps) = (y == want) := by
        unfold Region.wanted
        rw [hg]
        simp only [hyv]
        cases y <;> cases want <;> rfl
      rw [hw]
      cases hb : (y == want) with
      | true => exact .inl (wex_sound E hS hdst rfl rfl (hK.1 hb) fun s' a' w' m' hk hS' => ih s' m' a' w' hS' hk)
      | false => exact ih ⟨_, _⟩ m _ w (hS.drop o.dst undef) (hK.2 hb)
end
end Go.Proofs.Ytadnjellfiafaaa.Pm
