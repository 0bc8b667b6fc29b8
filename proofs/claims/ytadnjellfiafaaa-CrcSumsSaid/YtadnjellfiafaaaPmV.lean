/- The abstract machine, twenty-first part: from a walk to a contract. No law of Go's is stated here. -/
import Derived.Test.YtadnjellfiafaaaPmU
set_option linter.all false
namespace Go.Proofs.Ytadnjellfiafaaa.Pm
open Go Go.RowKit

/-- An argument at a function's entry. -/
def arg0 : T → AV
  | .fn f cs => .fn f (cs.map (AV.t · false))
  | .i k n => .t (.i k n) true
  | .b x => .t (.b x) true
  | .s x => .t (.s x) true
  | x => .t x false
def s0 (ts : List T) (_ : Nat) : S := ⟨ofL (ts.map fun x => some (arg0 x)), []⟩

/-- A function's results. -/
def resAV (ti : Nat → Option TI) (s : S) : List ResultVar → Option (Prop × List AV)
  | [] => some (True, [])
  | .tmp t :: r => match gt s.tm t, resAV ti s r with
    | some v, some (p, vs) => some (p, v :: vs)
    | _, _ => none
  | .cell a t :: r => match gt s.tm a with
    | some v => match qLoad ti (lk s.hp) t v, resAV ti s r with
      | some (p, u, _), some (p', vs) => some (p ∧ p', u :: vs)
      | _, _ => none
    | none => none

def emb2 (h : H) : AV → Option (T × Bool × List (Nat × Blk))
  | .agg cs => match embs h cs with
    | some (xs, l, us) => some (.agg xs, l, us)
    | none => none
  | v => emb h v

/-- Each result reads as its tree; where l: in new memory. -/
def sees (h : H) : List AV → List (T × Bool) → Prop
  | [], [] => True
  | v :: vs, (x, l) :: r => match emb2 h v with
    | some (y, l', _) => y = x ∧ (l = true → l' = true) ∧ sees h vs r
    | none => False
  | _, _ => False

/-- What is asked at a return: trees alone. -/
def retT (ti : Nat → Option TI) (res : List ResultVar) (r : List (T × Bool)) (e : Ex) (s : S) : Prop :=
  match e with
  | .r | .n => match resAV ti s res with
    | some (p, vs) => p ∧ sees (lk s.hp) vs r
    | none => False
  | _ => False
/-- What is asked at a return: one row. -/
def retR (ti : Nat → Option TI) (res : List ResultVar) (z : Nat) (es : List (List T)) (l : Bool) (e : Ex) (s : S) : Prop :=
  match e with
  | .r | .n => match resAV ti s res with
    | some (p, [.row id ver off len]) => p ∧ off = 0 ∧ len = es.length ∧ (match rowOf (lk s.hp) id ver with
      | some (z', es', l') => z' = z ∧ es' = es ∧ (l = true → l' = true)
      | none => False)
    | _ => False
  | _ => False

def AV.ofT (p : T × Bool) : AV := .t p.1 p.2
def resV : List AV → AV
  | [v] => v
  | vs => .tup vs

section
variable {P : Program} {w w' : World} {c : Ct} {m m' m1 : Mp} {h h' h1 : H} {ti : Nat → Option TI} {tm : Tm} {a : Act}

theorem arg0_vr {B : Nat} {v : Value} {x : T} (hr : Rep w m.st v x) : VR m B h w v (arg0 x) := by
  have hm : ∀ {v : Value} {x : T}, Rep w m.st v x → Rep w (m.ok B false) v x := fun hr => hr.mono (fun b hb => ⟨hb, fun e => by cases e⟩) (fun _ _ => rfl)
  cases x
  case fn f cs =>
    cases hr with
    | fn _ vs _ hs hh =>
      refine .fn f vs _ (by simpa using hs) fun j v x hv hx => ?_
      rw [List.getElem?_map] at hx
      simp only [Option.map_eq_some_iff] at hx
      obtain ⟨y, hy, rfl⟩ := hx
      exact .t _ _ _ (hm (hh j v y hv hy))
  case i k n => cases hr; exact .t _ _ _ (.i _ _)
  case b x => cases hr; exact .t _ _ _ (.b _)
  case s x => cases hr; exact .t _ _ _ (.s _)
  all_goals exact .t _ _ _ (hm hr)

theorem s0_sat (w : World) (B : Nat → Prop) (hB : ∀ b, B b → b < w.heap.size) {ts : List T} {args : Array Value} {n : Nat} (hl : args.size = ts.length) (hr : ∀ (j : Nat) (v : Value) (x : T), args[j]? = some v → ts[j]? = some x → Rep w B v x) :
    Sat ⟨P, w, B, n⟩ ⟨fun _ => 0, fun _ => (0, 0), B⟩ (lk (s0 ts n).hp) (s0 ts n).tm { tmps := args ++ Array.replicate (n - args.size) undef, defers := [] } w := by
  refine ⟨⟨Below.refl _ _, fun id b hb => by simp [lk, s0] at hb, fun i j g hg => by simp [place, lk, s0] at hg, hB, fun b hb => .inl hb⟩, rfl, by simp; omega, fun t v ht => ?_⟩
  simp only [s0, ofL, List.getElem?_map] at ht
  rcases Nat.lt_or_ge t ts.length with h | h
  · rw [List.getElem?_eq_getElem h] at ht
    simp only [Option.map_some, Option.getD_some, Option.some.injEq] at ht
    subst ht
    have hlt : t < args.size := by omega
    have : (args ++ Array.replicate (n - args.size) undef).getD t undef = args[t] := by
      simp [Array.getD_eq_getD_getElem?, Array.getElem?_append_left hlt, hlt]
    refine ⟨by simp; omega, ?_⟩
    rw [this]
    exact arg0_vr (hr t _ _ (by simp [hlt]) (List.getElem?_eq_getElem h))
  · rw [List.getElem?_eq_none h] at ht
    simp at ht

def resOp (tmps : Array Value) : ResultVar → Sem Value
  | .tmp t => pure (tmps.getD t undef)
  | .cell a t => do loadVar t (← asAddr (tmps.getD a undef))
theorem results_eq (fn : Func) (tmps : Array Value) : results fn tmps = (do
    let vs ← fn.results.mapM (resOp tmps)
    pure (if h : vs.size = 1 then vs[0] else .tuple vs)) := by
  unfold results
  have : (fun (r : ResultVar) => (match r with
      | .tmp t => pure (tmps.getD t undef)
      | .cell a' t => do loadVar t (← asAddr (tmps.getD a' undef)) : Sem Value)) = resOp tmps := by
    funext r
    cases r <;> rfl
  rw [← this]
  rfl

theorem run_results1 (hP : TIok P ti) {s : S} (hS : Sat c m (lk s.hp) s.tm a w) : ∀ (res : List ResultVar) (p : Prop) (vs : List AV), resAV ti s res = some (p, vs) → p →
    ∃ rvs : List Value, (res.mapM (resOp a.tmps)).run P w = .ok rvs w ∧ rvs.length = vs.length ∧ ∀ (j : Nat) (v : Value) (x : AV), rvs[j]? = some v → vs[j]? = some x → VR m c.w0.heap.size (lk s.hp) w v x
  | [], p, vs, hr, hp => by
    simp only [resAV, Option.some.injEq, Prod.mk.injEq] at hr
    obtain ⟨_, rfl⟩ := hr
    exact ⟨[], rfl, rfl, by simp⟩
  | .tmp t :: r, p, vs, hr, hp => by
    simp only [resAV] at hr
    split at hr <;> simp only [Option.some.injEq, Prod.mk.injEq, reduceCtorEq] at hr
    rename_i v p' vs' hv hrec
    obtain ⟨rfl, rfl⟩ := hr
    obtain ⟨rvs, h1, h2, h3⟩ := run_results1 hP hS r _ _ hrec hp
    refine ⟨a.tmps.getD t undef :: rvs, ?_, by simp [h2], fun j u x hu hx => ?_⟩
    · simp only [List.mapM_cons, resOp, Sem.run_bind, Sem.run_pure, Result.andThen_ok, h1]
    · cases j with
      | zero => simp only [List.getElem?_cons_zero, Option.some.injEq] at hu hx; subst hu; subst hx; exact (hS.tmps t _ (gt_some hv)).2
      | succ j => exact h3 j u x (by simpa using hu) (by simpa using hx)
  | .cell a' t :: r, p, vs, hr, hp => by
    simp only [resAV] at hr
    split at hr <;> try cases hr
    rename_i v hv
    split at hr <;> simp only [Option.some.injEq, Prod.mk.injEq, reduceCtorEq] at hr
    rename_i p1 u us p' vs' hq hrec
    obtain ⟨rfl, rfl⟩ := hr
    obtain ⟨hp1, hp2⟩ := hp
    obtain ⟨rvs, h1, h2, h3⟩ := run_results1 hP hS r _ _ hrec hp2
    obtain ⟨_, rv, h4, h5⟩ := qLoad_sound (P := P) hP hS.mem (fun _ _ h => h) (hS.tmps a' v (gt_some hv)).2 hq hp1
    refine ⟨rv :: rvs, ?_, by simp [h2], fun j u x hu hx => ?_⟩
    · have hload : (do loadVar t (← asAddr (a.tmps.getD a' undef)) : Sem Value).run P w = .ok rv w := by
        rw [← h4]
        generalize a.tmps.getD a' undef = pv at h4 ⊢
        cases pv <;> simp [Instr.loadAt, Instr.sureAddr, stuck] at h4 ⊢
        rename_i ad
        cases ad <;> simp [asAddr, Instr.sureAddr, stuck] at h4 ⊢
      have hop : (resOp a.tmps (.cell a' t)).run P w = .ok rv w := hload
      simp only [List.mapM_cons, Sem.run_bind, Sem.run_pure, hop, Result.andThen_ok, h1]
    · cases j with
      | zero => simp at hu hx; subst hu; subst hx; exact h5
      | succ j => exact h3 j u x (by simpa using hu) (by simpa using hx)

def vOf : List Value → Value
  | [v] => v
  | vs => .tuple vs.toArray

theorem run_results (hP : TIok P ti) {s : S} (hS : Sat c m (lk s.hp) s.tm a w) (fn : Func) {p : Prop} {vs : List AV} (hr : resAV ti s fn.results.toList = some (p, vs)) (hp : p) :
    ∃ rvs : List Value, (results fn a.tmps).run P w = .ok (vOf rvs) w ∧ rvs.length = vs.length ∧ ∀ (j : Nat) (v : Value) (x : AV), rvs[j]? = some v → vs[j]? = some x → VR m c.w0.heap.size (lk s.hp) w v x := by
  obtain ⟨rvs, h1, h2, h3⟩ := run_results1 hP hS _ _ _ hr hp
  refine ⟨rvs, ?_, h2, h3⟩
  rw [results_eq, Array.mapM_eq_mapM_toList]
  simp only [Sem.run_bind, Sem.run_map, h1, Result.andThen_ok]
  match rvs with
  | [] => simp [vOf]
  | [v] => simp [vOf]
  | v :: u :: r => simp [vOf]

theorem emb2_rep (hM : Mem c m h w) {v : AV} {r : T × Bool × List (Nat × Blk)} (he : emb2 h v = some r) {rv : Value} (hv : VR m c.w0.heap.size h w rv v) :
    ∃ ids, r.2.2 = ids.map (fun i => (i, .gone)) ∧ (∀ id ∈ ids, ∃ ver z es l, h id = some (.row ver z es l)) ∧ Rep w (gok m c.w0.heap.size ids r.2.1) rv r.1 := by
  cases v
  case agg cs =>
    simp only [emb2] at he
    split at he <;> simp only [Option.some.injEq, reduceCtorEq] at he
    rename_i xs l us hes
    subst he
    cases hv with
    | agg vs _ hs hvv =>
      obtain ⟨ids, h1, h2, h3, h4⟩ := embs_rep hM hes (rvs := vs.toList) (by simpa using hs) (fun j v x hv hx => hvv j v x (by simpa using hv) hx)
      exact ⟨ids, h1, h2, .agg vs xs (by simp only at h3; omega) fun j v x hv hx => h4 j v x (by simpa using hv) hx⟩
  all_goals (simp only [emb2] at he; exact emb_rep hM he hv)

theorem sees_rep (hM : Mem c m h w) : ∀ {vs : List AV} {r : List (T × Bool)}, sees h vs r → ∀ {rvs : List Value}, rvs.length = vs.length → (∀ (j : Nat) (v : Value) (x : AV), rvs[j]? = some v → vs[j]? = some x → VR m c.w0.heap.size h w v x) →
    vs.length = r.length ∧ ∃ ids : List Nat, (∀ id ∈ ids, ∃ ver z es l, h id = some (.row ver z es l)) ∧ ∀ (j : Nat) (v : Value) (x : T × Bool), rvs[j]? = some v → r[j]? = some x → Rep w (gok m c.w0.heap.size ids x.2) v x.1
  | [], [], _, rvs, hl, hv => ⟨rfl, [], by simp, by simp⟩
  | v :: vs, (x, l) :: r, hs, rvs, hl, hv => by
    simp only [sees] at hs
    split at hs <;> try exact hs.elim
    rename_i y l' us he
    obtain ⟨rfl, h1, h2⟩ := hs
    match rvs, hl with
    | rv :: rvs, hl =>
      obtain ⟨g1, ids2, g2, g3⟩ := sees_rep hM h2 (rvs := rvs) (by simpa using hl) (fun j u z hu hz => hv (j + 1) u z (by simpa using hu) (by simpa using hz))
      obtain ⟨ids, e1, e2, e3⟩ := emb2_rep hM he (hv 0 rv v rfl rfl)
      refine ⟨by simp [g1], ids ++ ids2, fun i hi => ?_, fun j u z hu hz => ?_⟩
      · rcases List.mem_append.1 hi with hi | hi
        · exact e2 i hi
        · exact g2 i hi
      · cases j with
        | zero =>
          simp at hu hz
          subst hu; subst hz
          exact gok_mono (fun i hi => List.mem_append_left _ hi) h1 e3
        | succ j => exact gok_mono (fun i hi => List.mem_append_right _ hi) (fun e => e) (g3 j u z (by simpa using hu) (by simpa using hz))
  | [], _ :: _, hs, _, _, _ => by simp [sees] at hs
  | _ :: _, [], hs, _, _, _ => by simp [sees] at hs

theorem Mem.none (hM : Mem c m h w) : Mem ⟨c.P, c.w0, c.st, 0⟩ m (lk []) w :=
  ⟨hM.below, fun id b hb => by simp [lk] at hb, fun i j g hg => by simp [place, lk] at hg, hM.stlt, hM.stin⟩

theorem vr_ofT {B : Nat} {rvs : List Value} {r : List (T × Bool)} (hl : rvs.length = r.length) (hr : ∀ (j : Nat) (v : Value) (x : T × Bool), rvs[j]? = some v → r[j]? = some x → VR m B h w v (AV.ofT x)) : VR m B h w (vOf rvs) (resV (r.map AV.ofT)) := by
  have tup : VR m B h w (.tuple rvs.toArray) (.tup (r.map AV.ofT)) := .tup _ _ (by simpa using hl) fun j v x hv hx => by
    rw [List.getElem?_map] at hx
    simp only [Option.map_eq_some_iff] at hx
    obtain ⟨y, hy, rfl⟩ := hx
    exact hr j v y (by simpa using hv) hy
  match rvs, r, hl with
  | [], [], _ => exact tup
  | [v], [x], _ => exact hr 0 v x rfl rfl
  | v :: u :: rvs, x :: y :: r, _ => exact tup

theorem ok3_ofT (r : List (T × Bool)) : ok3 (resV (r.map AV.ofT)) = true := by
  have tup : ok3 (.tup (r.map AV.ofT)) = true := by simp [ok3, AV.ofT, ok2, ok1]
  match r with
  | [] => exact tup
  | [x] => rfl
  | x :: y :: r => exact tup

/-- What the walks of a program lean on. -/
structure Hold (P : Program) (x : Cx) : Prop where
  ti : TIok P x.ti
  spec : ∀ g ts bs r, x.spec g ts bs r → Spec P g ts bs r

/-- A function's body, and its form for the walk. -/
structure Body (P : Program) (f : Nat) (fl : List Nat) (hs : List Hint) (C : C) (n : Nat) (res : List ResultVar) : Prop where
  it : ∃ fn cd, P.funcs[f]? = some fn ∧ fn.body = some cd ∧ fn.name ≠ "runtime.NumGoroutine" ∧ fn.ntmps = n ∧ fn.results.toList = res ∧ tr n fl cd hs = some (C, [])

theorem spec_of_W {x : Cx} (hx : Hold P x) {f n : Nat} {fl : List Nat} {hs : List Hint} {C : C} {res : List ResultVar} (hB : Body P f fl hs C n res) {ts : List T} {bs : List Blk} {r : AV} (h1 : ok3 r = true) (h2 : ∀ b ∈ bs, ∃ z es l, b = .row 0 z es l)
    {K : Ex → S → Prop} (hW : W x C K (s0 ts n))
    (hK : ∀ (c : Ct) e s a w m, K e s → c.P = P → Sat c m (lk s.hp) s.tm a w → (e = .r ∨ e = .n) ∧ ∃ p vs, resAV x.ti s res = some (p, vs) ∧ p ∧
      ∀ rvs : List Value, rvs.length = vs.length → (∀ (j : Nat) (v : Value) (x : AV), rvs[j]? = some v → vs[j]? = some x → VR m c.w0.heap.size (lk s.hp) w v x) → ∃ m', Mem ⟨c.P, c.w0, c.st, 0⟩ m' (lk bs) w ∧ VR m' c.w0.heap.size (lk bs) w (vOf rvs) r) : Spec P f ts bs r := by
  obtain ⟨fn, cd, hf, hb, hname, rfl, rfl, htr⟩ := hB.it
  refine ⟨h1, h2, ⟨fn, cd, hf, hb, hname⟩, fun w B args hBl hl hr => ?_⟩
  have E : Env x ⟨P, w, B, fn.ntmps⟩ := ⟨hx.ti, hx.spec⟩
  refine calls_of_wp hf hb (W_sound E cd hs [] C htr K _ (fun e s a w' m hk hS => ?_) _ _ w _ (s0_sat w B hBl hl hr) hW)
  obtain ⟨he, p, vs, hres, hp, hfin⟩ := hK _ e s a w' m hk rfl hS
  obtain ⟨rvs, g1, g2, g3⟩ := run_results (P := P) hx.ti hS fn hres hp
  have := hfin rvs g2 g3
  rcases he with rfl | rfl
  · exact ⟨hS.defers, _, g1, this⟩
  · exact ⟨hS.defers, _, g1, this⟩

/-- A function whose results are trees. -/
theorem spec_t {x : Cx} (hx : Hold P x) {f n : Nat} {fl : List Nat} {hs : List Hint} {C : C} {res : List ResultVar} (hB : Body P f fl hs C n res) {ts : List T} (r : List (T × Bool)) (hW : W x C (retT x.ti res r) (s0 ts n)) :
    Spec P f ts [] (resV (r.map AV.ofT)) := by
  refine spec_of_W hx hB (ok3_ofT r) (by simp) hW fun c e s a w m hk hc hS => ?_
  have key : (match resAV x.ti s res with
    | some (p, vs) => p ∧ sees (lk s.hp) vs r
    | none => False) → ∃ p vs, resAV x.ti s res = some (p, vs) ∧ p ∧
      ∀ rvs : List Value, rvs.length = vs.length → (∀ (j : Nat) (v : Value) (x : AV), rvs[j]? = some v → vs[j]? = some x → VR m c.w0.heap.size (lk s.hp) w v x) → ∃ m', Mem ⟨c.P, c.w0, c.st, 0⟩ m' (lk []) w ∧ VR m' c.w0.heap.size (lk []) w (vOf rvs) (resV (r.map AV.ofT)) := by
    intro hk
    split at hk <;> try exact hk.elim
    rename_i p vs hres
    refine ⟨p, vs, hres, hk.1, fun rvs hl hv => ?_⟩
    obtain ⟨g1, ids, g2, g3⟩ := sees_rep hS.mem hk.2 hl hv
    obtain ⟨st', e1, M1, hst1, hst2⟩ := goesAll ids hS.mem (fun id hid => .inl (g2 id hid))
    refine ⟨_, M1.none, vr_ofT (by omega) fun j v x hv hx => .t _ _ _ ((g3 j v x hv hx).mono (fun b hb => ⟨?_, hb.2⟩) (fun _ _ => rfl))⟩
    rcases hb.1 with hb1 | ⟨id, hid, hpos, rfl⟩
    · exact hst1 _ hb1
    · obtain ⟨ver, z, es, l, hh⟩ := g2 id hid
      exact hst2 id hid _ _ _ _ hh hpos
  cases e with
  | n => exact ⟨.inr rfl, key hk⟩
  | r => exact ⟨.inl rfl, key hk⟩
  | x id => exact hk.elim
  | g l => exact hk.elim

/-- A function whose result is a row. -/
theorem spec_r {x : Cx} (hx : Hold P x) {f n : Nat} {fl : List Nat} {hs : List Hint} {C : C} {res : List ResultVar} (hB : Body P f fl hs C n res) {ts : List T} (z : Nat) (es : List (List T)) (l : Bool) (hW : W x C (retR x.ti res z es l) (s0 ts n)) :
    Spec P f ts [.row 0 z es l] (.row 0 0 0 es.length) := by
  refine spec_of_W hx hB rfl (fun b hb => ⟨z, es, l, by simpa using hb⟩) hW fun c e s a w m hk hc hS => ?_
  have key : (match resAV x.ti s res with
    | some (p, [.row id ver off len]) => p ∧ off = 0 ∧ len = es.length ∧ (match rowOf (lk s.hp) id ver with
      | some (z', es', l') => z' = z ∧ es' = es ∧ (l = true → l' = true)
      | none => False)
    | _ => False) → ∃ p vs, resAV x.ti s res = some (p, vs) ∧ p ∧
      ∀ rvs : List Value, rvs.length = vs.length → (∀ (j : Nat) (v : Value) (x : AV), rvs[j]? = some v → vs[j]? = some x → VR m c.w0.heap.size (lk s.hp) w v x) → ∃ m', Mem ⟨c.P, c.w0, c.st, 0⟩ m' (lk [.row 0 z es l]) w ∧ VR m' c.w0.heap.size (lk [.row 0 z es l]) w (vOf rvs) (.row 0 0 0 es.length) := by
    intro hk
    split at hk <;> try exact hk.elim
    rename_i p id ver off len hres
    obtain ⟨hp, rfl, rfl, hrow⟩ := hk
    split at hrow <;> try exact hrow.elim
    rename_i z' es' l' hr
    obtain ⟨rfl, rfl, hl⟩ := hrow
    refine ⟨p, _, hres, hp, fun rvs hlen hv => ?_⟩
    match rvs, hlen with
    | [rv], _ =>
      have h0 := hv 0 rv _ rfl rfl
      have hid := rowOf_some hr
      obtain ⟨b1, b2, b3, b4⟩ := hS.mem.blk _ _ hid
      have hpl : ∀ i g, place (⟨m.φ, fun _ => m.ψ id, m.st⟩ : Mp) (lk [.row 0 z' es' l]) i = some g → i = 0 := fun i g hg => by
        cases i with
        | zero => rfl
        | succ i => simp [place, lk] at hg
      refine ⟨⟨m.φ, fun _ => m.ψ id, m.st⟩, ⟨hS.mem.below, fun i b hb => ?_, fun i j g hi hj => by rw [hpl i g hi, hpl j g hj], hS.mem.stlt, hS.mem.stin⟩, ?_⟩
      · cases i with
        | succ i => simp [lk] at hb
        | zero =>
          simp [lk] at hb
          subst hb
          refine ⟨b1, b2, b3, fun hpos => ?_⟩
          obtain ⟨g1, g2, rcs, tt, g3, g4, g5⟩ := b4 hpos
          refine ⟨g1, g2, rcs, tt, g3, g4, fun q j e y he hy => ?_⟩
          obtain ⟨v, hv1, hv2⟩ := g5 q j e y he hy
          exact ⟨v, hv1, hv2.mono (fun b hb => ⟨hb.1, fun e => hb.2 (hl e)⟩) (fun _ _ => rfl)⟩
      · cases h0 with
        | row _ _ _ _ cap A hid' hver hc hra =>
          obtain ⟨v1, v2⟩ := hra _ _ _ hr
          refine .row 0 0 0 _ cap A (by simp [lk]) (fun _ _ _ _ _ => Nat.zero_le _) hc fun z1 es1 l1 hr1 => ?_
          simp [rowOf, lk] at hr1
          obtain ⟨rfl, rfl, rfl⟩ := hr1
          exact ⟨v1, v2⟩
  cases e with
  | n => exact ⟨.inr rfl, key hk⟩
  | r => exact ⟨.inl rfl, key hk⟩
  | x id => exact hk.elim
  | g l => exact hk.elim
end
end Go.Proofs.Ytadnjellfiafaaa.Pm
