/- The abstract machine, twenty-first part: from a walk to a contract. No law of Go's is stated here. -/
import Derived.Test.YtadnjellfiafaaaPmU
set_option linter.all false
namespace Go.Proofs.Ytadnjellfiafaaa.Pm
open Go Go.RowKit

/-- An argument at a function's entry. -/
def arg0 : T → AV
  | .fn f cs => .fn f (cs.map (AV.t · false))
  | .i k n => .t (.i k n) true
  | .b x => .t (.b x) true
  | .s x => .t (.s x) true
  | .nl => .nl
  | x => .t x false
def s0 (ts : List T) (_ : Nat) : S := ⟨ofL (ts.map fun x => some (arg0 x)), []⟩

/-- A function's results. -/
def resAV (ti : Nat → Option TI) (s : S) : List ResultVar → Option (Prop × List AV)
  | [] => some (True, [])
  | .tmp t :: r => match gt s.tm t, resAV ti s r with
    | some v, some (p, vs) => some (p, v :: vs)
    | _, _ => none
  | .cell a t :: r => match gt s.tm a with
    | some v => match qLoad ti (lk s.hp) t v, resAV ti s r with
      | some (p, u, _), some (p', vs) => some (p ∧ p', u :: vs)
      | _, _ => none
    | none => none

/-- Each result reads as its tree; where l: in new memory. -/
def sees (h : H) : List AV → List (T × Bool) → Prop
  | [], [] => True
  | v :: vs, (x, l) :: r => match emb2 h v with
    | some (y, l', _) => y = x ∧ (l = true → l' = true) ∧ sees h vs r
    | none => False
  | _, _ => False

/-- What is asked at a return: trees alone. -/
def retT (ti : Nat → Option TI) (res : List ResultVar) (r : List (T × Bool)) (e : Ex) (s : S) : Prop :=
  match e with
  | .r | .n => match resAV ti s res with
    | some (p, vs) => p ∧ sees (lk s.hp) vs r
    | none => False
  | _ => False
/-- What is asked at a return: one row. -/
def retR (ti : Nat → Option TI) (res : List ResultVar) (z : Nat) (es : List (List T)) (l : Bool) (e : Ex) (s : S) : Prop :=
  match e with
  | .r | .n => match resAV ti s res with
    | some (p, [.row id ver off len]) => p ∧ off = 0 ∧ len = es.length ∧ (match rowOf (lk s.hp) id ver with
      | some (z', es', l') => z' = z ∧ es' = es ∧ (l = true → l' = true)
      | none => False)
    | _ => False
  | _ => False

def AV.ofT (p : T × Bool) : AV := .t p.1 p.2
def resV : List AV → AV
  | [v] => v
  | vs => .tup vs

section
variable {P : Program} {w w' : World} {c : Ct} {m m' m1 : Mp} {h h' h1 : H} {ti : Nat → Option TI} {tm : Tm} {a : Act}

theorem arg0_vr {B : Nat} {v : Value} {x : T} (hr : Rep w m.st v x) : VR m B h w v (arg0 x) := by
  have hm : ∀ {v : Value} {x : T}, Rep w m.st v x → Rep w (m.ok B false) v x := fun hr => hr.mono (fun b hb => ⟨hb, fun e => by cases e⟩) (fun _ _ => rfl)
  cases x
  case fn f cs =>
    cases hr with
    | fn _ vs _ hs hh =>
      refine .fn f vs _ (by simpa using hs) fun j v x hv hx => ?_
      rw [List.getElem?_map] at hx
      simp only [Option.map_eq_some_iff] at hx
      obtain ⟨y, hy, rfl⟩ := hx
      exact .t _ _ _ (hm (hh j v y hv hy))
  case i k n => cases hr; exact .t _ _ _ (.i _ _)
  case b x => cases hr; exact .t _ _ _ (.b _)
  case s x => cases hr; exact .t _ _ _ (.s _)
  case nl => cases hr; exact .nl
  all_goals exact .t _ _ _ (hm hr)

theorem s0_sat (w : World) (B : Nat → Prop) (hB : ∀ b, B b → b < w.heap.size) {ts : List T} {args : Array Value} {n : Nat} (hl : args.size = ts.length) (hr : ∀ (j : Nat) (v : Value) (x : T), args[j]? = some v → ts[j]? = some x → Rep w B v x) :
    Sat ⟨P, w, B, n, w.heap.size, Nat.le_refl _⟩ ⟨fun _ => 0, fun _ => (0, 0), B⟩ (lk (s0 ts n).hp) (s0 ts n).tm { tmps := args ++ Array.replicate (n - args.size) undef, defers := [] } w := by
  refine ⟨⟨Below.refl _ _, fun b hb => ⟨hb, rfl⟩, fun id b hb => by simp [lk, s0] at hb, fun i j g hg => by simp [place, lk, s0] at hg, hB, fun b hb => .inl hb⟩, rfl, by simp; omega, fun t v ht => ?_⟩
  simp only [s0, ofL, List.getElem?_map] at ht
  rcases Nat.lt_or_ge t ts.length with h | h
  · rw [List.getElem?_eq_getElem h] at ht
    simp only [Option.map_some, Option.getD_some, Option.some.injEq] at ht
    subst ht
    have hlt : t < args.size := by omega
    have : (args ++ Array.replicate (n - args.size) undef).getD t undef = args[t] := by
      simp [Array.getD_eq_getD_getElem?, Array.getElem?_append_left hlt, hlt]
    refine ⟨by simp; omega, ?_⟩
    rw [this]
    exact arg0_vr (hr t _ _ (by simp [hlt]) (List.getElem?_eq_getElem h))
  · rw [List.getElem?_eq_none h] at ht
    simp at ht

def resOp (tmps : Array Value) : ResultVar → Sem Value
  | .tmp t => pure (tmps.getD t undef)
  | .cell a t => do loadVar t (← asAddr (tmps.getD a undef))
theorem results_eq (fn : Func) (tmps : Array Value) : results fn tmps = (do
    let vs ← fn.results.mapM (resOp tmps)
    pure (if h : vs.size = 1 then vs[0] else .tuple vs)) := by
  unfold results
  have : (fun (r : ResultVar) => (match r with
      | .tmp t => pure (tmps.getD t undef)
      | .cell a' t => do loadVar t (← asAddr (tmps.getD a' undef)) : Sem Value)) = resOp tmps := by
    funext r
    cases r <;> rfl
  rw [← this]
  rfl

theorem run_results1 (hP : TIok P ti) {s : S} (hS : Sat c m (lk s.hp) s.tm a w) : ∀ (res : List ResultVar) (p : Prop) (vs : List AV), resAV ti s res = some (p, vs) → p →
    ∃ rvs : List Value, (res.mapM (resOp a.tmps)).run P w = .ok rvs w ∧ rvs.length = vs.length ∧ ∀ (j : Nat) (v : Value) (x : AV), rvs[j]? = some v → vs[j]? = some x → VR m c.B (lk s.hp) w v x
  | [], p, vs, hr, hp => by
    simp only [resAV, Option.some.injEq, Prod.mk.injEq] at hr
    obtain ⟨_, rfl⟩ := hr
    exact ⟨[], rfl, rfl, by simp⟩
  | .tmp t :: r, p, vs, hr, hp => by
    simp only [resAV] at hr
    split at hr <;> simp only [Option.some.injEq, Prod.mk.injEq, reduceCtorEq] at hr
    rename_i v p' vs' hv hrec
    obtain ⟨rfl, rfl⟩ := hr
    obtain ⟨rvs, h1, h2, h3⟩ := run_results1 hP hS r _ _ hrec hp
    refine ⟨a.tmps.getD t undef :: rvs, ?_, by simp [h2], fun j u x hu hx => ?_⟩
    · simp only [List.mapM_cons, resOp, Sem.run_bind, Sem.run_pure, Result.andThen_ok, h1]
    · cases j with
      | zero => simp only [List.getElem?_cons_zero, Option.some.injEq] at hu hx; subst hu; subst hx; exact (hS.tmps t _ (gt_some hv)).2
      | succ j => exact h3 j u x (by simpa using hu) (by simpa using hx)
  | .cell a' t :: r, p, vs, hr, hp => by
    simp only [resAV] at hr
    split at hr <;> try cases hr
    rename_i v hv
    split at hr <;> simp only [Option.some.injEq, Prod.mk.injEq, reduceCtorEq] at hr
    rename_i p1 u us p' vs' hq hrec
    obtain ⟨rfl, rfl⟩ := hr
    obtain ⟨hp1, hp2⟩ := hp
    obtain ⟨rvs, h1, h2, h3⟩ := run_results1 hP hS r _ _ hrec hp2
    obtain ⟨_, rv, h4, h5⟩ := qLoad_sound (P := P) hP hS.mem (fun _ _ h => h) (hS.tmps a' v (gt_some hv)).2 hq hp1
    refine ⟨rv :: rvs, ?_, by simp [h2], fun j u x hu hx => ?_⟩
    · have hload : (do loadVar t (← asAddr (a.tmps.getD a' undef)) : Sem Value).run P w = .ok rv w := by
        rw [← h4]
        generalize a.tmps.getD a' undef = pv at h4 ⊢
        cases pv <;> simp [Instr.loadAt, Instr.sureAddr, stuck] at h4 ⊢
        rename_i ad
        cases ad <;> simp [asAddr, Instr.sureAddr, stuck] at h4 ⊢
      have hop : (resOp a.tmps (.cell a' t)).run P w = .ok rv w := hload
      simp only [List.mapM_cons, Sem.run_bind, Sem.run_pure, hop, Result.andThen_ok, h1]
    · cases j with
      | zero => simp at hu hx; subst hu; subst hx; exact h5
      | succ j => exact h3 j u x (by simpa using hu) (by simpa using hx)

def vOf : List Value → Value
  | [v] => v
  | vs => .tuple vs.toArray

theorem run_results (hP : TIok P ti) {s : S} (hS : Sat c m (lk s.hp) s.tm a w) (fn : Func) {p : Prop} {vs : List AV} (hr : resAV ti s fn.results.toList = some (p, vs)) (hp : p) :
    ∃ rvs : List Value, (results fn a.tmps).run P w = .ok (vOf rvs) w ∧ rvs.length = vs.length ∧ ∀ (j : Nat) (v : Value) (x : AV), rvs[j]? = some v → vs[j]? = some x → VR m c.B (lk s.hp) w v x := by
  obtain ⟨rvs, h1, h2, h3⟩ := run_results1 hP hS _ _ _ hr hp
  refine ⟨rvs, ?_, h2, h3⟩
  rw [results_eq, Array.mapM_eq_mapM_toList]
  simp only [Sem.run_bind, Sem.run_map, h1, Result.andThen_ok]
  match rvs with
  | [] => simp [vOf]
  | [v] => simp [vOf]
  | v :: u :: r => simp [vOf]

theorem emb2_rep (hM : Mem c m h w) {v : AV} {r : T × Bool × List (Nat × Blk)} (he : emb2 h v = some r) {rv : Value} (hv : VR m c.B h w rv v) :
    ∃ ids, r.2.2 = ids.map (fun i => (i, .gone)) ∧ (∀ id ∈ ids, ∃ ver z es l, h id = some (.row ver z es l)) ∧ Rep w (gok m c.B ids r.2.1) rv r.1 := by
  cases v
  case agg cs =>
    simp only [emb2] at he
    split at he <;> simp only [Option.some.injEq, reduceCtorEq] at he
    rename_i xs l us hes
    subst he
    cases hv with
    | agg vs _ hs hvv =>
      obtain ⟨ids, h1, h2, h3, h4⟩ := embs_rep hM hes (rvs := vs.toList) (by simpa using hs) (fun j v x hv hx => hvv j v x (by simpa using hv) hx)
      exact ⟨ids, h1, h2, .agg vs xs (by simp only at h3; omega) fun j v x hv hx => h4 j v x (by simpa using hv) hx⟩
  all_goals (simp only [emb2] at he; exact emb_rep hM he hv)

theorem sees_rep (hM : Mem c m h w) : ∀ {vs : List AV} {r : List (T × Bool)}, sees h vs r → ∀ {rvs : List Value}, rvs.length = vs.length → (∀ (j : Nat) (v : Value) (x : AV), rvs[j]? = some v → vs[j]? = some x → VR m c.B h w v x) →
    vs.length = r.length ∧ ∃ ids : List Nat, (∀ id ∈ ids, ∃ ver z es l, h id = some (.row ver z es l)) ∧ ∀ (j : Nat) (v : Value) (x : T × Bool), rvs[j]? = some v → r[j]? = some x → Rep w (gok m c.B ids x.2) v x.1
  | [], [], _, rvs, hl, hv => ⟨rfl, [], by simp, by simp⟩
  | v :: vs, (x, l) :: r, hs, rvs, hl, hv => by
    simp only [sees] at hs
    split at hs <;> try exact hs.elim
    rename_i y l' us he
    obtain ⟨rfl, h1, h2⟩ := hs
    match rvs, hl with
    | rv :: rvs, hl =>
      obtain ⟨g1, ids2, g2, g3⟩ := sees_rep hM h2 (rvs := rvs) (by simpa using hl) (fun j u z hu hz => hv (j + 1) u z (by simpa using hu) (by simpa using hz))
      obtain ⟨ids, e1, e2, e3⟩ := emb2_rep hM he (hv 0 rv v rfl rfl)
      refine ⟨by simp [g1], ids ++ ids2, fun i hi => ?_, fun j u z hu hz => ?_⟩
      · rcases List.mem_append.1 hi with hi | hi
        · exact e2 i hi
        · exact g2 i hi
      · cases j with
        | zero =>
          simp at hu hz
          subst hu; subst hz
          exact gok_mono (fun i hi => List.mem_append_left _ hi) h1 e3
        | succ j => exact gok_mono (fun i hi => List.mem_append_right _ hi) (fun e => e) (g3 j u z (by simpa using hu) (by simpa using hz))
  | [], _ :: _, hs, _, _, _ => by simp [sees] at hs
  | _ :: _, [], hs, _, _, _ => by simp [sees] at hs

theorem Mem.none (hM : Mem c m h w) : Mem ⟨c.P, c.w0, c.st, 0, c.B, c.hB⟩ m (lk []) w :=
  ⟨hM.below, hM.kept, fun id b hb => by simp [lk] at hb, fun i j g hg => by simp [place, lk] at hg, hM.stlt, hM.stin⟩

theorem vr_ofT {B : Nat} {rvs : List Value} {r : List (T × Bool)} (hl : rvs.length = r.length) (hr : ∀ (j : Nat) (v : Value) (x : T × Bool), rvs[j]? = some v → r[j]? = some x → VR m B h w v (AV.ofT x)) : VR m B h w (vOf rvs) (resV (r.map AV.ofT)) := by
  have tup : VR m B h w (.tuple rvs.toArray) (.tup (r.map AV.ofT)) := .tup _ _ (by simpa using hl) fun j v x hv hx => by
    rw [List.getElem?_map] at hx
    simp only [Option.map_eq_some_iff] at hx
    obtain ⟨y, hy, rfl⟩ := hx
    exact hr j v y (by simpa using hv) hy
  match rvs, r, hl with
  | [], [], _ => exact tup
  | [v], [x], _ => exact hr 0 v x rfl rfl
  | v :: u :: rvs, x :: y :: r, _ => exact tup

theorem ok3_ofT (r : List (T × Bool)) : ok3 (resV (r.map AV.ofT)) = true := by
  have tup : ok3 (.tup (r.map AV.ofT)) = true := by simp [ok3, AV.ofT, ok2, ok1]
  match r with
  | [] => exact tup
  | [x] => rfl
  | x :: y :: r => exact tup

/-- What the walks of a program lean on. -/
structure Hold (P : Program) (x : Cx) : Prop where
  ti : TIok P x.ti
  spec : ∀ g ts bs r, x.spec g ts bs r → Spec P g ts bs r
  ap : ∀ g xs ts ys, x.specAp g xs ts ys → SpecAp P g xs ts ys
  mixed : P.follows .mixedOrders = true

/-- A function's body, and its form for the walk. -/
structure Body (P : Program) (f : Nat) (fl : List Nat) (hs : List Hint) (C : C) (n : Nat) (res : List ResultVar) : Prop where
  it : ∃ fn cd, P.funcs[f]? = some fn ∧ fn.body = some cd ∧ fn.name ≠ "runtime.NumGoroutine" ∧ fn.ntmps = n ∧ fn.results.toList = res ∧ tr n fl cd hs = some (C, [])

theorem spec_of_W {x : Cx} (hx : Hold P x) {f n : Nat} {fl : List Nat} {hs : List Hint} {C : C} {res : List ResultVar} (hB : Body P f fl hs C n res) {ts : List T} {bs : List Blk} {r : AV} (h1 : ok3 r = true) (h2 : ∀ b ∈ bs, ∃ z es l, b = .row 0 z es l)
    {K : Ex → S → Prop} (hW : W x C K (s0 ts n))
    (hK : ∀ (c : Ct) e s a w m, K e s → c.P = P → Sat c m (lk s.hp) s.tm a w → (e = .r ∨ e = .n) ∧ ∃ p vs, resAV x.ti s res = some (p, vs) ∧ p ∧
      ∀ rvs : List Value, rvs.length = vs.length → (∀ (j : Nat) (v : Value) (x : AV), rvs[j]? = some v → vs[j]? = some x → VR m c.B (lk s.hp) w v x) → ∃ m', Mem ⟨c.P, c.w0, c.st, 0, c.B, c.hB⟩ m' (lk bs) w ∧ VR m' c.B (lk bs) w (vOf rvs) r) : Spec P f ts bs r := by
  obtain ⟨fn, cd, hf, hb, hname, rfl, rfl, htr⟩ := hB.it
  refine ⟨h1, h2, ⟨fn, cd, hf, hb, hname⟩, fun w B args hBl hl hr => ?_⟩
  have E : Env x ⟨P, w, B, fn.ntmps, w.heap.size, Nat.le_refl _⟩ := ⟨hx.ti, hx.spec, hx.ap, hx.mixed⟩
  refine calls_of_wp hf hb (W_sound E cd hs [] C htr K _ (fun e s a w' m hk hS => ?_) _ _ w _ (s0_sat w B hBl hl hr) hW)
  obtain ⟨he, p, vs, hres, hp, hfin⟩ := hK _ e s a w' m hk rfl hS
  obtain ⟨rvs, g1, g2, g3⟩ := run_results (P := P) hx.ti hS fn hres hp
  have := hfin rvs g2 g3
  rcases he with rfl | rfl
  · exact ⟨hS.defers, _, g1, this⟩
  · exact ⟨hS.defers, _, g1, this⟩

/-- A function whose results are trees. -/
theorem spec_t {x : Cx} (hx : Hold P x) {f n : Nat} {fl : List Nat} {hs : List Hint} {C : C} {res : List ResultVar} (hB : Body P f fl hs C n res) {ts : List T} (r : List (T × Bool)) (hW : W x C (retT x.ti res r) (s0 ts n)) :
    Spec P f ts [] (resV (r.map AV.ofT)) := by
  refine spec_of_W hx hB (ok3_ofT r) (by simp) hW fun c e s a w m hk hc hS => ?_
  have key : (match resAV x.ti s res with
    | some (p, vs) => p ∧ sees (lk s.hp) vs r
    | none => False) → ∃ p vs, resAV x.ti s res = some (p, vs) ∧ p ∧
      ∀ rvs : List Value, rvs.length = vs.length → (∀ (j : Nat) (v : Value) (x : AV), rvs[j]? = some v → vs[j]? = some x → VR m c.B (lk s.hp) w v x) → ∃ m', Mem ⟨c.P, c.w0, c.st, 0, c.B, c.hB⟩ m' (lk []) w ∧ VR m' c.B (lk []) w (vOf rvs) (resV (r.map AV.ofT)) := by
    intro hk
    split at hk <;> try exact hk.elim
    rename_i p vs hres
    refine ⟨p, vs, hres, hk.1, fun rvs hl hv => ?_⟩
    obtain ⟨g1, ids, g2, g3⟩ := sees_rep hS.mem hk.2 hl hv
    obtain ⟨st', e1, M1, hst1, hst2⟩ := goesAll ids hS.mem (fun id hid => .inl (g2 id hid))
    refine ⟨_, M1.none, vr_ofT (by omega) fun j v x hv hx => .t _ _ _ ((g3 j v x hv hx).mono (fun b hb => ⟨?_, hb.2⟩) (fun _ _ => rfl))⟩
    rcases hb.1 with hb1 | ⟨id, hid, hpos, rfl⟩
    · exact hst1 _ hb1
    · obtain ⟨ver, z, es, l, hh⟩ := g2 id hid
      exact hst2 id hid _ _ _ _ hh hpos
  cases e with
  | n => exact ⟨.inr rfl, key hk⟩
  | r => exact ⟨.inl rfl, key hk⟩
  | x id => exact hk.elim
  | g l => exact hk.elim

/-- A function whose result is a row. -/
theorem spec_r {x : Cx} (hx : Hold P x) {f n : Nat} {fl : List Nat} {hs : List Hint} {C : C} {res : List ResultVar} (hB : Body P f fl hs C n res) {ts : List T} (z : Nat) (es : List (List T)) (l : Bool) (hW : W x C (retR x.ti res z es l) (s0 ts n)) :
    Spec P f ts [.row 0 z es l] (.row 0 0 0 es.length) := by
  refine spec_of_W hx hB rfl (fun b hb => ⟨z, es, l, by simpa using hb⟩) hW fun c e s a w m hk hc hS => ?_
  have key : (match resAV x.ti s res with
    | some (p, [.row id ver off len]) => p ∧ off = 0 ∧ len = es.length ∧ (match rowOf (lk s.hp) id ver with
      | some (z', es', l') => z' = z ∧ es' = es ∧ (l = true → l' = true)
      | none => False)
    | _ => False) → ∃ p vs, resAV x.ti s res = some (p, vs) ∧ p ∧
      ∀ rvs : List Value, rvs.length = vs.length → (∀ (j : Nat) (v : Value) (x : AV), rvs[j]? = some v → vs[j]? = some x → VR m c.B (lk s.hp) w v x) → ∃ m', Mem ⟨c.P, c.w0, c.st, 0, c.B, c.hB⟩ m' (lk [.row 0 z es l]) w ∧ VR m' c.B (lk [.row 0 z es l]) w (vOf rvs) (.row 0 0 0 es.length) := by
    intro hk
    split at hk <;> try exact hk.elim
    rename_i p id ver off len hres
    obtain ⟨hp, rfl, rfl, hrow⟩ := hk
    split at hrow <;> try exact hrow.elim
    rename_i z' es' l' hr
    obtain ⟨rfl, rfl, hl⟩ := hrow
    refine ⟨p, _, hres, hp, fun rvs hlen hv => ?_⟩
    match rvs, hlen with
    | [rv], _ =>
      have h0 := hv 0 rv _ rfl rfl
      have hid := rowOf_some hr
      obtain ⟨b1, b2, b3, b4⟩ := hS.mem.blk _ _ hid
      have hpl : ∀ i g, place (⟨m.φ, fun _ => m.ψ id, m.st⟩ : Mp) (lk [.row 0 z' es' l]) i = some g → i = 0 := fun i g hg => by
        cases i with
        | zero => rfl
        | succ i => simp [place, lk] at hg
      refine ⟨⟨m.φ, fun _ => m.ψ id, m.st⟩, ⟨hS.mem.below, hS.mem.kept, fun i b hb => ?_, fun i j g hi hj => by rw [hpl i g hi, hpl j g hj], hS.mem.stlt, hS.mem.stin⟩, ?_⟩
      · cases i with
        | succ i => simp [lk] at hb
        | zero =>
          simp [lk] at hb
          subst hb
          refine ⟨b1, b2, b3, fun hpos => ?_⟩
          obtain ⟨g1, g2, rcs, tt, g3, g4, g5⟩ := b4 hpos
          refine ⟨g1, g2, rcs, tt, g3, g4, fun q j e y he hy => ?_⟩
          obtain ⟨v, hv1, hv2⟩ := g5 q j e y he hy
          exact ⟨v, hv1, hv2.mono (fun b hb => ⟨hb.1, fun e => hb.2 (hl e)⟩) (fun _ _ => rfl)⟩
      · cases h0 with
        | row _ _ _ _ cap A hid' hver hc hra =>
          obtain ⟨v1, v2⟩ := hra _ _ _ hr
          refine .row 0 0 0 _ cap A (by simp [lk]) (fun _ _ _ _ _ => Nat.zero_le _) hc fun z1 es1 l1 hr1 => ?_
          simp [rowOf, lk] at hr1
          obtain ⟨rfl, rfl, rfl⟩ := hr1
          exact ⟨v1, v2⟩
  cases e with
  | n => exact ⟨.inr rfl, key hk⟩
  | r => exact ⟨.inl rfl, key hk⟩
  | x id => exact hk.elim
  | g l => exact hk.elim

/-! ### Results of every form -/
/-- A result of one cell: a row, by its place in the list of those that are handed back; or a tree. -/
def out1 (h : H) (π : List Nat) : AV → AV → Prop
  | .row k vr off len, v => ∃ id ver z es l, vr = 0 ∧ π[k]? = some id ∧ v = .row id ver off len ∧ rowOf h id ver = some (z, es, l)
  | .nl, v => v = .nl
  | .t x l, v => ∃ l' us, emb2 h v = some (x, l', us) ∧ (l = true → l' = true) ∧ ∀ u ∈ us, u.1 ∉ π
  | _, _ => False
def outs1 (h : H) (π : List Nat) : List AV → List AV → Prop
  | [], [] => True
  | r :: rs, v :: vs => out1 h π r v ∧ outs1 h π rs vs
  | _, _ => False
def out2 (h : H) (π : List Nat) : AV → AV → Prop
  | .agg rs, v => ∃ cs, v = .agg cs ∧ outs1 h π rs cs
  | r, v => out1 h π r v
def outs2 (h : H) (π : List Nat) : List AV → List AV → Prop
  | [], [] => True
  | r :: rs, v :: vs => out2 h π r v ∧ outs2 h π rs vs
  | _, _ => False
/-- The rows that are handed back. -/
def outB (h : H) : List Nat → List Blk → Prop
  | [], [] => True
  | id :: π, b :: bs => (∃ v z es es' l l', h id = some (.row v z es' l') ∧ b = .row 0 z es l ∧ es'.take es.length = es ∧ es.length ≤ es'.length ∧ (l = true → l' = true)) ∧ id ∉ π ∧ outB h π bs
  | _, _ => False
def retO (ti : Nat → Option TI) (res : List ResultVar) (bs : List Blk) (rs : List AV) (e : Ex) (s : S) : Prop :=
  match e with
  | .r | .n => match resAV ti s res with
    | some (p, vs) => p ∧ ∃ π, outB (lk s.hp) π bs ∧ outs2 (lk s.hp) π rs vs
    | none => False
  | _ => False

theorem outB_get : ∀ {π : List Nat} {bs : List Blk}, outB h π bs → π.length = bs.length ∧ (∀ (i j : Nat) (id : Nat), π[i]? = some id → π[j]? = some id → i = j) ∧
    ∀ (k id : Nat) (b : Blk), π[k]? = some id → bs[k]? = some b → ∃ v z es es' l l', h id = some (.row v z es' l') ∧ b = .row 0 z es l ∧ es'.take es.length = es ∧ es.length ≤ es'.length ∧ (l = true → l' = true)
  | [], [], _ => by simp
  | id :: π, b :: bs, hb => by
    obtain ⟨h1, h2, h3⟩ := hb
    obtain ⟨g1, g2, g3⟩ := outB_get h3
    refine ⟨by simp [g1], fun i j x hi hj => ?_, fun k x c hk hc => ?_⟩
    · cases i with
      | zero =>
        cases j with
        | zero => rfl
        | succ j =>
          simp at hi hj
          subst hi
          exact (h2 (List.mem_of_getElem? hj)).elim
      | succ i =>
        cases j with
        | zero =>
          simp at hi hj
          subst hj
          exact (h2 (List.mem_of_getElem? hi)).elim
        | succ j => rw [g2 i j x (by simpa using hi) (by simpa using hj)]
    · cases k with
      | zero => simp at hk hc; subst hk; subst hc; exact h1
      | succ k => exact g3 k x c (by simpa using hk) (by simpa using hc)

/-- The rows that go into trees. -/
def goIds1 (h : H) (π : List Nat) : AV → AV → List Nat
  | .t _ _, v => match emb2 h v with
    | some (_, _, us) => us.map (·.1)
    | none => []
  | _, _ => []
def goIds1s (h : H) (π : List Nat) : List AV → List AV → List Nat
  | r :: rs, v :: vs => goIds1 h π r v ++ goIds1s h π rs vs
  | _, _ => []
def goIds2 (h : H) (π : List Nat) : AV → AV → List Nat
  | .agg rs, .agg cs => goIds1s h π rs cs
  | r, v => goIds1 h π r v
def goIds2s (h : H) (π : List Nat) : List AV → List AV → List Nat
  | r :: rs, v :: vs => goIds2 h π r v ++ goIds2s h π rs vs
  | _, _ => []

theorem goes1 {π : List Nat} (hM : Mem c m h w) {r v : AV} (ho : out1 h π r v) {rv : Value} (hv : VR m c.B h w rv v) : ∀ id ∈ goIds1 h π r v, id ∉ π ∧ ∃ ver z es l, h id = some (.row ver z es l) := by
  cases r <;> simp only [out1, goIds1] at ho ⊢ <;> try (intro id hid; cases hid; done)
  obtain ⟨l', us, he, _, hu⟩ := ho
  rw [he]
  simp only
  obtain ⟨ids, h1, h2, _⟩ := emb2_rep hM he hv
  simp only at h1
  subst h1
  intro id hid
  simp only [List.map_map, List.mem_map, Function.comp] at hid
  obtain ⟨i, hi, rfl⟩ := hid
  exact ⟨hu (i, .gone) (List.mem_map_of_mem hi), h2 i hi⟩
theorem goes1s {π : List Nat} (hM : Mem c m h w) : ∀ {rs vs : List AV}, outs1 h π rs vs → ∀ {rvs : List Value}, rvs.length = vs.length → (∀ (j : Nat) (v : Value) (x : AV), rvs[j]? = some v → vs[j]? = some x → VR m c.B h w v x) → ∀ id ∈ goIds1s h π rs vs, id ∉ π ∧ ∃ ver z es l, h id = some (.row ver z es l)
  | [], [], _, _, _, _ => by intro id hid; cases hid
  | r :: rs, v :: vs, ho, rv :: rvs, hl, hv => by
    intro id hid
    rcases List.mem_append.1 hid with hid | hid
    · exact goes1 hM ho.1 (hv 0 rv v rfl rfl) id hid
    · exact goes1s hM ho.2 (rvs := rvs) (by simpa using hl) (fun j u x hu hx => hv (j + 1) u x (by simpa using hu) (by simpa using hx)) id hid
theorem goes2 {π : List Nat} (hM : Mem c m h w) {r v : AV} (ho : out2 h π r v) {rv : Value} (hv : VR m c.B h w rv v) : ∀ id ∈ goIds2 h π r v, id ∉ π ∧ ∃ ver z es l, h id = some (.row ver z es l) := by
  cases r
  case agg rs =>
    simp only [out2] at ho
    obtain ⟨cs, rfl, ho⟩ := ho
    cases hv with
    | agg vs _ hs hvv => exact goes1s hM ho (rvs := vs.toList) (by simpa using hs) (fun j v x hv hx => hvv j v x (by simpa using hv) hx)
  all_goals
    (simp only [out2] at ho
     have e : ∀ r', (∀ rs, r' ≠ .agg rs) → goIds2 h π r' v = goIds1 h π r' v := fun r' hr => by cases r' <;> first | rfl | exact (hr _ rfl).elim
     rw [e _ (by simp)]
     exact goes1 hM ho hv)
theorem goes2s {π : List Nat} (hM : Mem c m h w) : ∀ {rs vs : List AV}, outs2 h π rs vs → ∀ {rvs : List Value}, rvs.length = vs.length → (∀ (j : Nat) (v : Value) (x : AV), rvs[j]? = some v → vs[j]? = some x → VR m c.B h w v x) → ∀ id ∈ goIds2s h π rs vs, id ∉ π ∧ ∃ ver z es l, h id = some (.row ver z es l)
  | [], [], _, _, _, _ => by intro id hid; cases hid
  | r :: rs, v :: vs, ho, rv :: rvs, hl, hv => by
    intro id hid
    rcases List.mem_append.1 hid with hid | hid
    · exact goes2 hM ho.1 (hv 0 rv v rfl rfl) id hid
    · exact goes2s hM ho.2 (rvs := rvs) (by simpa using hl) (fun j u x hu hx => hv (j + 1) u x (by simpa using hu) (by simpa using hx)) id hid

/-- Where the results lie, seen from the caller. -/
structure Seen (m m' : Mp) (B : Nat) (h : H) (π ids : List Nat) (bs : List Blk) : Prop where
  psi : ∀ (k id : Nat), π[k]? = some id → m'.ψ k = m.ψ id
  stays : ∀ b, m.st b → m'.st b
  gone : ∀ id ∈ ids, 0 < (m.ψ id).2 → m'.st (m.ψ id).1
  bs : outB h π bs

theorem seen1 {m' : Mp} {π ids : List Nat} {bs : List Blk} (hM : Mem c m h w) (hs : Seen m m' c.B h π ids bs) {r v : AV} (ho : out1 h π r v) (hi : ∀ id ∈ goIds1 h π r v, id ∈ ids) {rv : Value} (hv : VR m c.B h w rv v) : VR m' c.B (lk bs) w rv r := by
  obtain ⟨b1, b2, b3⟩ := outB_get hs.bs
  cases r <;> simp only [out1] at ho
  case nl => subst ho; cases hv; exact .nl
  case row k vr off len =>
    obtain ⟨id, ver, z, es, l, rfl, hk, rfl, hrow⟩ := ho
    cases hv with
    | row _ _ _ _ cap A hid hver hc hr =>
      obtain ⟨r1, r2⟩ := hr _ _ _ hrow
      have hkb : k < bs.length := by rw [← b1]; exact (List.getElem?_eq_some_iff.1 hk).1
      refine .row k 0 off len cap A (by simp [lk, hkb]) (fun _ _ _ _ _ => Nat.zero_le _) hc fun z' es' l' hr' => ?_
      obtain ⟨v, z0, es0, es1, l0, l1, e1, e2, _, _, _⟩ := b3 k id _ hk (List.getElem?_eq_getElem hkb)
      have hz : z' = z := by
        have h1 := rowOf_some hrow
        rw [e1] at h1
        have h2 : lk bs k = some (.row 0 z0 es0 l0) := by simp [lk, hkb, e2]
        have h3 := rowOf_some hr'
        rw [h2] at h3
        simp only [Option.some.injEq, Blk.row.injEq] at h1 h3
        omega
      rw [hz, hs.psi k id hk]
      exact ⟨r1, r2⟩
  case t x l =>
    obtain ⟨l', us, he, hl, hu⟩ := ho
    simp only [goIds1, he] at hi
    obtain ⟨ids0, h1, h2, h3⟩ := emb2_rep hM he hv
    simp only at h1 h3
    subst h1
    refine .t _ _ _ (h3.mono (fun b hb => ⟨?_, fun e => hb.2 (hl e)⟩) (fun _ _ => rfl))
    rcases hb.1 with hb1 | ⟨id, hid, hpos, rfl⟩
    · exact hs.stays _ hb1
    · exact hs.gone id (hi id (List.mem_map.2 ⟨(id, .gone), List.mem_map.2 ⟨id, hid, rfl⟩, rfl⟩)) hpos
theorem seen1s {m' : Mp} {π ids : List Nat} {bs : List Blk} (hM : Mem c m h w) (hs : Seen m m' c.B h π ids bs) : ∀ {rs vs : List AV}, outs1 h π rs vs → (∀ id ∈ goIds1s h π rs vs, id ∈ ids) → ∀ {rvs : List Value}, rvs.length = vs.length → (∀ (j : Nat) (v : Value) (x : AV), rvs[j]? = some v → vs[j]? = some x → VR m c.B h w v x) →
    rs.length = vs.length ∧ ∀ (j : Nat) (v : Value) (r : AV), rvs[j]? = some v → rs[j]? = some r → VR m' c.B (lk bs) w v r
  | [], [], _, _, _, _, _ => by simp
  | r :: rs, v :: vs, ho, hi, rv :: rvs, hl, hv => by
    obtain ⟨g1, g2⟩ := seen1s hM hs ho.2 (fun id hid => hi id (List.mem_append_right _ hid)) (rvs := rvs) (by simpa using hl) (fun j u x hu hx => hv (j + 1) u x (by simpa using hu) (by simpa using hx))
    refine ⟨by simp [g1], fun j u x hu hx => ?_⟩
    cases j with
    | zero => simp at hu hx; subst hu; subst hx; exact seen1 hM hs ho.1 (fun id hid => hi id (List.mem_append_left _ hid)) (hv 0 rv v rfl rfl)
    | succ j => exact g2 j u x (by simpa using hu) (by simpa using hx)
theorem seen2 {m' : Mp} {π ids : List Nat} {bs : List Blk} (hM : Mem c m h w) (hs : Seen m m' c.B h π ids bs) {r v : AV} (ho : out2 h π r v) (hi : ∀ id ∈ goIds2 h π r v, id ∈ ids) {rv : Value} (hv : VR m c.B h w rv v) : VR m' c.B (lk bs) w rv r := by
  cases r
  case agg rs =>
    simp only [out2] at ho
    obtain ⟨cs, rfl, ho⟩ := ho
    cases hv with
    | agg vs _ hsz hvv =>
      obtain ⟨g1, g2⟩ := seen1s hM hs ho hi (rvs := vs.toList) (by simpa using hsz) (fun j v x hv hx => hvv j v x (by simpa using hv) hx)
      exact .agg vs rs (by omega) fun j v x hv hx => g2 j v x (by simpa using hv) hx
  all_goals
    (simp only [out2] at ho
     have e : ∀ r', (∀ rs, r' ≠ .agg rs) → goIds2 h π r' v = goIds1 h π r' v := fun r' hr => by cases r' <;> first | rfl | exact (hr _ rfl).elim
     rw [e _ (by simp)] at hi
     exact seen1 hM hs ho hi hv)
theorem seen2s {m' : Mp} {π ids : List Nat} {bs : List Blk} (hM : Mem c m h w) (hs : Seen m m' c.B h π ids bs) : ∀ {rs vs : List AV}, outs2 h π rs vs → (∀ id ∈ goIds2s h π rs vs, id ∈ ids) → ∀ {rvs : List Value}, rvs.length = vs.length → (∀ (j : Nat) (v : Value) (x : AV), rvs[j]? = some v → vs[j]? = some x → VR m c.B h w v x) →
    rs.length = vs.length ∧ ∀ (j : Nat) (v : Value) (r : AV), rvs[j]? = some v → rs[j]? = some r → VR m' c.B (lk bs) w v r
  | [], [], _, _, _, _, _ => by simp
  | r :: rs, v :: vs, ho, hi, rv :: rvs, hl, hv => by
    obtain ⟨g1, g2⟩ := seen2s hM hs ho.2 (fun id hid => hi id (List.mem_append_right _ hid)) (rvs := rvs) (by simpa using hl) (fun j u x hu hx => hv (j + 1) u x (by simpa using hu) (by simpa using hx))
    refine ⟨by simp [g1], fun j u x hu hx => ?_⟩
    cases j with
    | zero => simp at hu hx; subst hu; subst hx; exact seen2 hM hs ho.1 (fun id hid => hi id (List.mem_append_left _ hid)) (hv 0 rv v rfl rfl)
    | succ j => exact g2 j u x (by simpa using hu) (by simpa using hx)

/-- A function whose results are rows, trees, structs of these. -/
theorem spec_o {x : Cx} (hx : Hold P x) {f n : Nat} {fl : List Nat} {hs : List Hint} {C : C} {res : List ResultVar} (hB : Body P f fl hs C n res) {ts : List T} (bs : List Blk) (rs : List AV) (hok : ok3 (resV rs) = true) (hW : W x C (retO x.ti res bs rs) (s0 ts n))
    (hbs : ∀ b ∈ bs, ∃ z es l, b = .row 0 z es l) : Spec P f ts bs (resV rs) := by
  refine spec_of_W hx hB hok hbs hW fun c e s a w m hk hc hS => ?_
  have key : (match resAV x.ti s res with
    | some (p, vs) => p ∧ ∃ π, outB (lk s.hp) π bs ∧ outs2 (lk s.hp) π rs vs
    | none => False) → ∃ p vs, resAV x.ti s res = some (p, vs) ∧ p ∧
      ∀ rvs : List Value, rvs.length = vs.length → (∀ (j : Nat) (v : Value) (x : AV), rvs[j]? = some v → vs[j]? = some x → VR m c.B (lk s.hp) w v x) → ∃ m', Mem ⟨c.P, c.w0, c.st, 0, c.B, c.hB⟩ m' (lk bs) w ∧ VR m' c.B (lk bs) w (vOf rvs) (resV rs) := by
    intro hk
    split at hk <;> try exact hk.elim
    rename_i p vs hres
    obtain ⟨hp, π, hπ, ho⟩ := hk
    refine ⟨p, vs, hres, hp, fun rvs hlen hv => ?_⟩
    have hgo := goes2s hS.mem ho hlen hv
    obtain ⟨st', e1, M1, hst1, hst2⟩ := goesAll (goIds2s (lk s.hp) π rs vs) hS.mem (fun id hid => .inl (hgo id hid).2)
    obtain ⟨b1, b2, b3⟩ := outB_get hπ
    have hkeep : ∀ id ∈ π, uH (lk s.hp) ((goIds2s (lk s.hp) π rs vs).map fun i => (i, Blk.gone)) id = lk s.hp id := fun id hid => uH_ne _ _ fun u hu e => by
      simp only [List.mem_map] at hu
      obtain ⟨i, hi, rfl⟩ := hu
      simp only at e
      subst e
      exact (hgo i hi).1 hid
    have hget : ∀ k b, lk bs k = some b → ∃ id, π[k]? = some id := fun k b hb => by
      have := (List.getElem?_eq_some_iff.1 hb).1
      exact ⟨π[k]'(by omega), by simp [show k < π.length by omega]⟩
    let m' : Mp := ⟨m.φ, fun k => match π[k]? with | some id => m.ψ id | none => (0, 0), st'⟩
    have hpsi : ∀ k id, π[k]? = some id → m'.ψ k = m.ψ id := fun k id hk => by simp only [m', hk]
    have hseen : Seen m m' c.B (lk s.hp) π (goIds2s (lk s.hp) π rs vs) bs := ⟨hpsi, hst1, fun id hid hpos => by
      obtain ⟨_, ver, z, es, l, hh⟩ := hgo id hid
      exact hst2 id hid _ _ _ _ hh hpos, hπ⟩
    have hplace : ∀ k g, place m' (lk bs) k = some g → ∃ id, π[k]? = some id ∧ place { m with st := st' } (uH (lk s.hp) ((goIds2s (lk s.hp) π rs vs).map fun i => (i, Blk.gone))) id = some g := fun k g hg => by
      unfold place at hg
      cases hb : lk bs k with
      | none => rw [hb] at hg; cases hg
      | some b =>
        rw [hb] at hg
        obtain ⟨id, hid⟩ := hget k b hb
        obtain ⟨v, z, es, es', l, l', e2, rfl, _, _, _⟩ := b3 k id b hid hb
        refine ⟨id, hid, ?_⟩
        unfold place
        rw [hkeep id (List.mem_of_getElem? hid), e2]
        simp only [placeB, hpsi k id hid] at hg ⊢
        exact hg
    refine ⟨m', ⟨M1.below, M1.kept, fun k b hb => ?_, fun i j g hi hj => ?_, M1.stlt, M1.stin⟩, ?_⟩
    · obtain ⟨id, hid⟩ := hget k b hb
      obtain ⟨v, z, es, es', l, l', e2, rfl, e3, e4, e5⟩ := b3 k id b hid hb
      have hbk := M1.blk id (.row v z es' l') (by rw [hkeep id (List.mem_of_getElem? hid)]; exact e2)
      obtain ⟨c1, c2, c3, c4⟩ := hbk
      have hg : ∀ (i : Nat) (e : List T), es[i]? = some e → es'[i]? = some e := fun i e he => by
        rw [← e3] at he
        have hlt : i < es.length := by
          have := (List.getElem?_eq_some_iff.1 he).1
          rw [List.length_take] at this; omega
        rwa [List.getElem?_take_of_lt hlt] at he
      refine ⟨by rw [hpsi k id hid]; exact Nat.le_trans e4 c1, Nat.le_trans e4 c2, fun i e he => c3 i e (hg i e he), fun hpos => ?_⟩
      rw [hpsi k id hid] at hpos ⊢
      obtain ⟨g1, g2, rcs, tt, g3, g4, g5⟩ := c4 hpos
      refine ⟨g1, g2, rcs, tt, g3, g4, fun q j e y he hy => ?_⟩
      obtain ⟨u, hu1, hu2⟩ := g5 q j e y (hg q e he) hy
      exact ⟨u, hu1, hu2.mono (fun b hb => ⟨hb.1, fun e => hb.2 (e5 e)⟩) (fun _ _ => rfl)⟩
    · obtain ⟨id, h1, h2⟩ := hplace i g hi
      obtain ⟨id', h3, h4⟩ := hplace j g hj
      have := M1.sep id id' g h2 h4
      subst this
      exact b2 i j id h1 h3
    · obtain ⟨g1, g2⟩ := seen2s hS.mem hseen ho (fun id hid => hid) hlen hv
      have tup : VR m' c.B (lk bs) w (.tuple rvs.toArray) (.tup rs) := .tup _ _ (by simpa using by omega) fun j v x hv hx => g2 j v x (by simpa using hv) hx
      match rvs, rs, g2, (show rvs.length = rs.length by omega), tup with
      | [], [], _, _, tup => exact tup
      | [v], [y], g2, _, _ => exact g2 0 v y rfl rfl
      | v :: u :: rvs, y :: z :: rs, _, _, tup => exact tup
  cases e with
  | n => exact ⟨.inr rfl, key hk⟩
  | r => exact ⟨.inl rfl, key hk⟩
  | x id => exact hk.elim
  | g l => exact hk.elim

/-! ### A function that appends to its first argument -/
def s1 (xs : List (List T)) (ts : List T) : S := ⟨ofL (some (.row 0 0 0 xs.length) :: ts.map fun x => some (arg0 x)), [.row 0 1 xs true]⟩

theorem s1_sat (w : World) (B : Nat → Prop) {xs : List (List T)} (hx : ∀ e ∈ xs, ∃ k n, e = [T.i k n]) (hroom : xs.length ≤ room) {ts : List T} {args : Array Value} {n : Nat} {A : Option Addr} {g cap : Nat} (hB : ∀ b, B b → b < w.heap.size ∧ (0 < cap → b ≠ g))
    (hA : 0 < cap → A = some ⟨g, 0, none⟩ ∧ RowAt w g cap xs) (hcap : xs.length ≤ cap) (hl : args.size = ts.length + 1) (h0 : args[0]? = some (.slice A xs.length cap)) (hr : ∀ (j : Nat) (v : Value) (x : T), args[j + 1]? = some v → ts[j]? = some x → Rep w B v x) :
    Sat ⟨P, w, fun b => b < w.heap.size ∧ (0 < cap → b ≠ g), n, 0, Nat.zero_le _⟩ ⟨fun _ => 0, fun _ => (g, cap), fun b => b < w.heap.size ∧ (0 < cap → b ≠ g)⟩ (lk (s1 xs ts).hp) (s1 xs ts).tm { tmps := args ++ Array.replicate (n - args.size) undef, defers := [] } w := by
  have hlen1 : ∀ e ∈ xs, e.length = 1 := fun e he => by
    obtain ⟨k, n, rfl⟩ := hx e he
    rfl
  have hget : ∀ t (ht : t < args.size), (args ++ Array.replicate (n - args.size) undef).getD t undef = args[t] := fun t ht => by
    simp [Array.getD_eq_getD_getElem?, Array.getElem?_append_left ht, ht]
  refine ⟨⟨Below.refl 0 w, fun b hb => ⟨hb, rfl⟩, fun id b hb => ?_, fun i j g' hi hj => ?_, fun b hb => hb.1, fun b hb => .inl hb⟩, rfl, by simp; omega, fun t v ht => ?_⟩
  · cases id with
    | succ id => simp [lk, s1] at hb
    | zero =>
      simp [lk, s1] at hb
      subst hb
      refine ⟨hcap, hroom, fun i e he => hlen1 e (List.mem_of_getElem? he), fun hpos => ?_⟩
      obtain ⟨e1, rcs, tt, g1, g2, g3⟩ := hA hpos
      refine ⟨Nat.zero_le _, fun hs => (hs.2 hpos) rfl, rcs, tt, g1, by simpa using g2, fun q j e y he hy => ?_⟩
      have hj : j = 0 := by
        have h1 := (List.getElem?_eq_some_iff.1 hy).1
        rw [hlen1 e (List.mem_of_getElem? he)] at h1
        omega
      subst hj
      obtain ⟨v, r4, r5⟩ := g3 q e y he hy
      exact ⟨v, by simpa using r4, r5.no⟩
  · have hz : ∀ i g', place (⟨fun _ => 0, fun _ => (g, cap), fun b => b < w.heap.size ∧ (0 < cap → b ≠ g)⟩ : Mp) (lk (s1 xs ts).hp) i = some g' → i = 0 := fun i g' hg => by
      cases i with
      | zero => rfl
      | succ i => simp [place, lk, s1] at hg
    rw [hz i g' hi, hz j g' hj]
  · simp only [s1, ofL] at ht
    cases t with
    | zero =>
      simp only [List.getElem?_cons_zero, Option.getD_some, Option.some.injEq] at ht
      subst ht
      have hlt : 0 < args.size := by omega
      have hv : args[0] = .slice A xs.length cap := by simpa [hlt] using h0
      refine ⟨by simp; omega, ?_⟩
      rw [hget 0 hlt, hv]
      refine .row 0 0 0 _ cap A (by simp [lk, s1]) (fun _ _ _ _ _ => Nat.zero_le _) hcap fun z es l hrow => ?_
      simp [rowOf, lk, s1] at hrow
      obtain ⟨rfl, rfl, rfl⟩ := hrow
      refine ⟨by simp, fun hc => ?_⟩
      rw [(hA hc).1, Nat.zero_mul]
      rfl
    | succ t =>
      simp only [List.getElem?_cons_succ, List.getElem?_map] at ht
      rcases Nat.lt_or_ge t ts.length with h | h
      · rw [List.getElem?_eq_getElem h] at ht
        simp only [Option.map_some, Option.getD_some, Option.some.injEq] at ht
        subst ht
        have hlt : t + 1 < args.size := by omega
        refine ⟨by simp; omega, ?_⟩
        rw [hget _ hlt]
        exact arg0_vr ((hr t _ _ (by simp [hlt]) (List.getElem?_eq_getElem h)).mono (fun b hb => hB b hb) (fun _ _ => rfl))
      · rw [List.getElem?_eq_none h] at ht
        simp at ht

theorem spec_ap {x : Cx} (hx : Hold P x) {f n : Nat} {fl : List Nat} {hs : List Hint} {C : C} {res : List ResultVar} (hB : Body P f fl hs C n res) {xs : List (List T)} {ts : List T} (ys : List (List T)) (hflat : ∀ e ∈ xs ++ ys, ∃ k n, e = [T.i k n]) (hfits : xs.length + ys.length ≤ room)
    (hW : W x C (retR x.ti res 1 (xs ++ ys) false) (s1 xs ts)) : SpecAp P f xs ts ys := by
  obtain ⟨fn, cd, hf, hb, hname, rfl, rfl, htr⟩ := hB.it
  refine ⟨hflat, ⟨fn, cd, hf, hb, hname⟩, hfits, fun w B A g cap args hBl hA hcap hsz h0 hr => ?_⟩
  have E : Env x ⟨P, w, fun b => b < w.heap.size ∧ (0 < cap → b ≠ g), fn.ntmps, 0, Nat.zero_le _⟩ := ⟨hx.ti, hx.spec, hx.ap, hx.mixed⟩
  have hS := s1_sat (P := P) (n := fn.ntmps) w B (fun e he => hflat e (List.mem_append_left _ he)) (by omega) hBl hA hcap hsz h0 hr
  refine calls_of_wp hf hb (W_sound E cd hs [] C htr _ _ (fun e s a w' m hk hS' => ?_) _ _ w _ hS hW)
  have key : (match resAV x.ti s fn.results.toList with
    | some (p, [.row id ver off len]) => p ∧ off = 0 ∧ len = (xs ++ ys).length ∧ (match rowOf (lk s.hp) id ver with
      | some (z', es', l') => z' = 1 ∧ es' = xs ++ ys ∧ (false = true → l' = true)
      | none => False)
    | _ => False) → ∃ v, (results fn a.tmps).run P w' = .ok v w' ∧ ∃ A' g' cap', v = .slice A' (xs.length + ys.length) cap' ∧ xs.length + ys.length ≤ cap' ∧ (0 < cap' → A' = some ⟨g', 0, none⟩ ∧ RowAt w' g' cap' (xs ++ ys) ∧ ((0 < cap ∧ g' = g) ∨ w.heap.size ≤ g')) ∧ w.grownBy w' (if 0 < cap then some g else none) := by
    intro hk
    split at hk <;> try exact hk.elim
    rename_i p id ver off len hres
    obtain ⟨hp, rfl, rfl, hrow⟩ := hk
    split at hrow <;> try exact hrow.elim
    rename_i z' es' l' hrw
    obtain ⟨rfl, rfl, _⟩ := hrow
    obtain ⟨rvs, g1, g2, g3⟩ := run_results (P := P) hx.ti hS' fn hres hp
    match rvs, g2, g1, g3 with
    | [rv], _, g1, g3 =>
      refine ⟨rv, g1, ?_⟩
      have hv := g3 0 rv _ rfl rfl
      obtain ⟨b1, b2, b3, b4⟩ := hS'.mem.blk _ _ (rowOf_some hrw)
      cases hv with
      | row _ _ _ _ cap' A' hid hver hc hra =>
        obtain ⟨v1, v2⟩ := hra _ _ _ hrw
        refine ⟨A', (m.ψ id).1, cap', by simp, by simpa using hc, fun hpos => ?_, ?_⟩
        · obtain ⟨_, c2, rcs, tt, c3, c4, c5⟩ := b4 (by omega)
          refine ⟨by rw [v2 hpos, Nat.zero_mul]; rfl, ⟨rcs, tt, c3, by omega, fun q e y he hy => ?_⟩, ?_⟩
          · obtain ⟨v, hv1, hv2⟩ := c5 q 0 e y he hy
            obtain ⟨k, n, rfl⟩ := hflat e (List.mem_of_getElem? he)
            simp only [List.getElem?_cons_zero, Option.some.injEq] at hy
            subst hy
            exact ⟨v, by simpa using hv1, rep_flat hv2⟩
          · rcases Nat.lt_or_ge (m.ψ id).1 w.heap.size with hlt | hge
            · left
              rcases Nat.eq_zero_or_pos cap with hc0 | hc0
              · exact (c2 (hS'.mem.kept _ ⟨hlt, fun h => by omega⟩).1).elim
              · refine ⟨hc0, ?_⟩
                rcases Nat.decEq (m.ψ id).1 g with hne | he
                · exact (c2 (hS'.mem.kept _ ⟨hlt, fun _ => hne⟩).1).elim
                · exact he
            · exact .inr hge
        · have hb := hS'.mem.below
          refine ⟨hb.os, hb.tape, hb.output, hb.size, fun k hk hne => (hS'.mem.kept k ⟨hk, fun h => ?_⟩).2⟩
          rw [if_pos h] at hne
          exact fun e => hne (by rw [e])
  cases e with
  | n =>
    obtain ⟨v, h1, h2⟩ := key hk
    exact ⟨hS'.defers, v, h1, h2⟩
  | r =>
    obtain ⟨v, h1, h2⟩ := key hk
    exact ⟨hS'.defers, v, h1, h2⟩
  | x id => exact hk.elim
  | g l => exact hk.elim

/-- An argument without elements: nil, or not. -/
theorem spec_sl0 {f : Nat} {bs : List Blk} {r : AV} (h1 : Spec P f [.nl] bs r) (h2 : Spec P f [.ne] bs r) : Spec P f [.sl []] bs r := by
  refine ⟨h1.form, h1.rows, h1.body, fun w B args hB hl hr => ?_⟩
  have hlt : 0 < args.size := by rw [hl]; simp
  have h0 := hr 0 args[0] (.sl []) (by simp [hlt]) rfl
  have hone : ∀ (x : T), Rep w B args[0] x → ∀ (j : Nat) (v : Value) (y : T), args[j]? = some v → [x][j]? = some y → Rep w B v y := fun x hx j v y hv hy => by
    cases j with
    | zero =>
      simp [hlt] at hv hy
      subst hv; subst hy
      exact hx
    | succ j => simp at hy
  generalize hv : args[0] = v at h0
  cases h0 with
  | sl A n c _ z vals hn hc hm hz0 hz hA hvv =>
    simp at hn
    subst hn
    cases A with
    | none =>
      obtain rfl := hz0 rfl
      exact h1.run w B args hB hl (hone .nl (by rw [hv]; exact .nl))
    | some a => exact h2.run w B args hB hl (hone .ne (by rw [hv]; exact .ne a c))

/-! ### Results as trees -/
def tree1 (h : H) (v : AV) : Option AV := match emb h v with
  | some (x, l, _) => some (.t x l)
  | none => none
def tree1s (h : H) : List AV → Option (List AV)
  | [] => some []
  | v :: vs => match tree1 h v, tree1s h vs with
    | some x, some xs => some (x :: xs)
    | _, _ => none
def tree2 (h : H) : AV → Option AV
  | .agg cs => match tree1s h cs with
    | some xs => some (.agg xs)
    | none => none
  | v => tree1 h v
def tree2s (h : H) : List AV → Option (List AV)
  | [] => some []
  | v :: vs => match tree2 h v, tree2s h vs with
    | some x, some xs => some (x :: xs)
    | _, _ => none
def tree3 (h : H) : AV → Option AV
  | .tup us => match tree2s h us with
    | some xs => some (.tup xs)
    | none => none
  | v => tree2 h v
theorem tree1s_get : ∀ {vs xs : List AV}, tree1s h vs = some xs → vs.length = xs.length ∧ ∀ (j : Nat) (v x : AV), vs[j]? = some v → xs[j]? = some x → tree1 h v = some x
  | [], xs, e => by simp [tree1s] at e; subst e; simp
  | v :: vs, xs, e => by
    simp only [tree1s] at e
    split at e <;> simp only [Option.some.injEq, reduceCtorEq] at e
    rename_i x ys h1 h2
    subst e
    obtain ⟨hl, hg⟩ := tree1s_get h2
    refine ⟨by simp [hl], fun j u y hu hy => ?_⟩
    cases j with
    | zero => simp at hu hy; subst hu; subst hy; exact h1
    | succ j => exact hg j u y (by simpa using hu) (by simpa using hy)
theorem tree2s_get : ∀ {vs xs : List AV}, tree2s h vs = some xs → vs.length = xs.length ∧ ∀ (j : Nat) (v x : AV), vs[j]? = some v → xs[j]? = some x → tree2 h v = some x
  | [], xs, e => by simp [tree2s] at e; subst e; simp
  | v :: vs, xs, e => by
    simp only [tree2s] at e
    split at e <;> simp only [Option.some.injEq, reduceCtorEq] at e
    rename_i x ys h1 h2
    subst e
    obtain ⟨hl, hg⟩ := tree2s_get h2
    refine ⟨by simp [hl], fun j u y hu hy => ?_⟩
    cases j with
    | zero => simp at hu hy; subst hu; subst hy; exact h1
    | succ j => exact hg j u y (by simpa using hu) (by simpa using hy)
theorem tree1_ok {v x : AV} (e : tree1 h v = some x) : ok1 x = true := by
  unfold tree1 at e
  split at e <;> simp only [Option.some.injEq, reduceCtorEq] at e
  subst e; rfl
theorem all_get {α : Type} {p : α → Bool} {xs : List α} (h : ∀ (j : Nat) (x : α), xs[j]? = some x → p x = true) : xs.all p = true := by
  rw [List.all_eq_true]
  intro x hx
  obtain ⟨j, hj⟩ := List.getElem?_of_mem hx
  exact h j x hj
theorem tree2_ok {v x : AV} (e : tree2 h v = some x) : ok2 x = true := by
  cases v
  case agg cs =>
    simp only [tree2] at e
    split at e <;> simp only [Option.some.injEq, reduceCtorEq] at e
    rename_i xs h1
    subst e
    obtain ⟨hl, hg⟩ := tree1s_get h1
    refine all_get fun j x hx => ?_
    have := (List.getElem?_eq_some_iff.1 hx).1
    obtain ⟨v, hv⟩ := list_get (l := cs) (j := j) (by omega)
    exact tree1_ok (hg j v x hv hx)
  all_goals
    (simp only [tree2] at e
     have h1 := tree1_ok e
     cases x <;> first | exact h1 | (simp [ok1] at h1))
theorem tree3_ok {v x : AV} (e : tree3 h v = some x) : ok3 x = true := by
  cases v
  case tup us =>
    simp only [tree3] at e
    split at e <;> simp only [Option.some.injEq, reduceCtorEq] at e
    rename_i xs h1
    subst e
    obtain ⟨hl, hg⟩ := tree2s_get h1
    refine all_get fun j x hx => ?_
    have := (List.getElem?_eq_some_iff.1 hx).1
    obtain ⟨v, hv⟩ := list_get (l := us) (j := j) (by omega)
    exact tree2_ok (hg j v x hv hx)
  all_goals
    (simp only [tree3] at e
     have h1 := tree2_ok e
     cases x <;> first | exact h1 | (simp [ok2, ok1] at h1))
theorem tree1_vr (hM : Mem c m h w) {st' : Nat → Prop} (hst1 : ∀ b, m.st b → st' b) (hst2 : ∀ id ver z es l, h id = some (.row ver z es l) → 0 < (m.ψ id).2 → st' (m.ψ id).1) {rv : Value} {v x : AV} (e : tree1 h v = some x) (hv : VR m c.B h w rv v) : VR { m with st := st' } c.B h' w rv x := by
  unfold tree1 at e
  split at e <;> simp only [Option.some.injEq, reduceCtorEq] at e
  rename_i y l us he
  subst e
  obtain ⟨ids, _, h2, h3⟩ := emb_rep hM he hv
  refine .t _ _ _ (h3.mono (fun b hb => ⟨?_, hb.2⟩) (fun _ _ => rfl))
  rcases hb.1 with h1 | ⟨id, hid, hpos, rfl⟩
  · exact hst1 _ h1
  · obtain ⟨ver, z, es, l, hh⟩ := h2 id hid
    exact hst2 id _ _ _ _ hh hpos
theorem tree2_vr (hM : Mem c m h w) {st' : Nat → Prop} (hst1 : ∀ b, m.st b → st' b) (hst2 : ∀ id ver z es l, h id = some (.row ver z es l) → 0 < (m.ψ id).2 → st' (m.ψ id).1) {rv : Value} {v x : AV} (e : tree2 h v = some x) (hv : VR m c.B h w rv v) : VR { m with st := st' } c.B h' w rv x := by
  cases v
  case agg cs =>
    simp only [tree2] at e
    split at e <;> simp only [Option.some.injEq, reduceCtorEq] at e
    rename_i xs h1
    subst e
    obtain ⟨hl, hg⟩ := tree1s_get h1
    cases hv with
    | agg vs _ hs hvv =>
      refine .agg vs xs (by omega) fun j u x hu hx => ?_
      have := (List.getElem?_eq_some_iff.1 hx).1
      obtain ⟨v, hv⟩ := list_get (l := cs) (j := j) (by omega)
      exact tree1_vr hM hst1 hst2 (hg j v x hv hx) (hvv j u v hu hv)
  all_goals (simp only [tree2] at e; exact tree1_vr hM hst1 hst2 e hv)
theorem tree3_vr (hM : Mem c m h w) {st' : Nat → Prop} (hst1 : ∀ b, m.st b → st' b) (hst2 : ∀ id ver z es l, h id = some (.row ver z es l) → 0 < (m.ψ id).2 → st' (m.ψ id).1) {rv : Value} {v x : AV} (e : tree3 h v = some x) (hv : VR m c.B h w rv v) : VR { m with st := st' } c.B h' w rv x := by
  cases v
  case tup us =>
    simp only [tree3] at e
    split at e <;> simp only [Option.some.injEq, reduceCtorEq] at e
    rename_i xs h1
    subst e
    obtain ⟨hl, hg⟩ := tree2s_get h1
    cases hv with
    | tup vs _ hs hvv =>
      refine .tup vs xs (by omega) fun j u x hu hx => ?_
      have := (List.getElem?_eq_some_iff.1 hx).1
      obtain ⟨v, hv⟩ := list_get (l := us) (j := j) (by omega)
      exact tree2_vr hM hst1 hst2 (hg j v x hv hx) (hvv j u v hu hv)
  all_goals (simp only [tree3] at e; exact tree2_vr hM hst1 hst2 e hv)

/-- A function's results, its rows read as trees. -/
theorem Spec.tree {f : Nat} {ts : List T} {bs : List Blk} {r r' : AV} (hs : Spec P f ts bs r) (e : tree3 (lk bs) r = some r') : Spec P f ts [] r' := by
  refine ⟨tree3_ok e, by simp, hs.body, fun w B args hB hl hr => (hs.run w B args hB hl hr).mono fun ex w' he => ?_⟩
  cases ex with
  | panicked _ => exact he
  | outgrown => exact he
  | returned v =>
    obtain ⟨m, hM, hv⟩ := he
    have hrows : ∀ id b, lk bs id = some b → ∃ ver z es l, lk bs id = some (.row ver z es l) := fun id b hb => by
      obtain ⟨z, es, l, rfl⟩ := hs.rows b (List.mem_of_getElem? hb)
      exact ⟨0, z, es, l, hb⟩
    obtain ⟨st', e1, M1, hst1, hst2⟩ := goesAll (List.range bs.length) hM (fun id hid => .inl (by
      rw [List.mem_range] at hid
      exact hrows id bs[id] (by simp [lk, hid])))
    refine ⟨_, M1.none, tree3_vr hM hst1 (fun id ver z es l hh hpos => hst2 id (by rw [List.mem_range]; exact lk_lt hh) _ _ _ _ hh hpos) e hv⟩
end
end Go.Proofs.Ytadnjellfiafaaa.Pm
