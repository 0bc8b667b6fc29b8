/- The abstract machine, sixth part: more operations that make and write nothing. No law of Go's is stated here. -/
import Derived.Test.YtadnjellfiafaaaPmE
import Derived.Laws.Cover3
import Derived.ChangeKeysEq
set_option linter.all false
namespace Go.Proofs.Ytadnjellfiafaaa.Pm
open Go Go.RowKit

section
variable {P : Program} {w : World} {c : Ct} {m : Mp} {h h1 : H} {ti : Nat → Option TI}

theorem Rep.any {B : Nat → Prop} {v : Value} {x : T} (hr : Rep w B v x) : Rep w (fun _ => True) v x := hr.mono (fun _ _ => trivial) (fun _ _ => rfl)

theorem plains_get : ∀ {cs : List AV} {p : List T × Bool}, plains cs = some p → cs.length = p.1.length ∧ ∀ (j : Nat) (u : AV), cs[j]? = some u → ∃ q, u.plain = some q ∧ p.1[j]? = some q.1 ∧ (p.2 = true → q.2 = true)
  | [], p, hp => by simp [plains] at hp; subst hp; simp
  | v :: vs, p, hp => by
    simp only [plains] at hp
    split at hp
    · rename_i x l xs k h1 h2
      simp only [Option.some.injEq] at hp
      subst hp
      obtain ⟨hl, hg⟩ := plains_get h2
      refine ⟨by simp [hl], fun j u hu => ?_⟩
      cases j with
      | zero => simp at hu; subst hu; exact ⟨_, h1, by simp, by simp; intro a _; exact a⟩
      | succ j => simp at hu; obtain ⟨q, a, b, d⟩ := hg j u hu; exact ⟨q, a, by simpa using b, fun e => d (by simp at e; exact e.2)⟩
    · cases hp

theorem Rep.nilslice {B : Nat → Prop} (A : Option Addr) : Rep w B (.slice A 0 0) (.sl []) :=
  .sl A 0 0 [] 0 (fun _ _ => undef) rfl (Nat.le_refl _) (by unfold room; omega) (fun _ => rfl) (by simp) (by simp) (by simp)

theorem plain_rep {u : AV} {q : T × Bool} (hq : u.plain = some q) {v : Value} (hv : VR m c.B h w v u) : Rep w (m.ok c.B q.2) v q.1 := by
  cases hv <;> simp only [AV.plain, Option.some.injEq, reduceCtorEq] at hq
  case t x l hr => subst hq; exact hr
  case nl => subst hq; exact Rep.nilslice _
  case e0 => subst hq; exact Rep.nilslice _

theorem ok_mono {l l' : Bool} (hl : l' = true → l = true) {v : Value} {x : T} (hr : Rep w (m.ok c.B l) v x) : Rep w (m.ok c.B l') v x :=
  hr.mono (fun _ hb => ⟨hb.1, fun e => hb.2 (hl e)⟩) (fun _ _ => rfl)

theorem pureT_rep {u : AV} {p : T} (hp : u.pureT = some p) {v : Value} (hv : VR m c.B h w v u) : Rep w (fun _ => True) v p := by
  cases hv <;> simp only [AV.pureT, Option.some.injEq, reduceCtorEq] at hp
  case t x l hr => subst hp; exact hr.any
  case agg vs cs hs hv =>
    simp only [Option.map_eq_some_iff] at hp
    obtain ⟨q, hq, rfl⟩ := hp
    obtain ⟨hl, hg⟩ := plains_get hq
    refine .agg _ _ (hs.trans hl) fun j v x h1 h2 => ?_
    have hj : j < cs.length := by rw [hl]; exact (List.getElem?_eq_some_iff.1 h2).1
    obtain ⟨u, hu⟩ := list_get hj
    obtain ⟨r, ha, hb, _⟩ := hg j u hu
    rw [hb] at h2
    simp at h2
    subst h2
    exact (plain_rep ha (hv j v u h1 hu)).any

/-! ### Numbers -/
theorem binI_sound {o : BinOp} {k k' : IntKind} {a b : Int} {y : T} (hy : binI o k k' a b = some y) (t : TypeId) : ∃ r, (binOp o t (.int k a) (.int k' b)).run P w = .ok r w ∧ ∀ B, Rep w B r y := by
  cases o <;> simp only [binI] at hy <;> split at hy <;> try simp only [Option.some.injEq, reduceCtorEq] at hy
  case shl hb => subst hy; exact ⟨.int k (k.wrap (a * 2 ^ min b.toNat k.bits)), by simp [binOp, Op.shift, Int.not_lt.2 hb], fun B => .i _ _⟩
  case shr hb => subst hy; exact ⟨.int k (a.fdiv (2 ^ min b.toNat k.bits)), by simp [binOp, Op.shift, Int.not_lt.2 hb], fun B => .i _ _⟩
  case quo e => split at hy <;> simp only [Option.some.injEq, reduceCtorEq] at hy; rename_i hb; subst hy; subst e; exact ⟨.int k (k.wrap (a.tdiv b)), by simp [binOp, Op.intDiv, hb], fun B => .i _ _⟩
  case rem e => split at hy <;> simp only [Option.some.injEq, reduceCtorEq] at hy; rename_i hb; subst hy; subst e; exact ⟨.int k (a.tmod b), by simp [binOp, Op.intDiv, hb], fun B => .i _ _⟩
  case add e => subst hy; subst e; exact ⟨.int k (k.wrap (a + b)), by simp [binOp, Op.intArith], fun B => .i _ _⟩
  case sub e => subst hy; subst e; exact ⟨.int k (k.wrap (a - b)), by simp [binOp, Op.intArith], fun B => .i _ _⟩
  case mul e => subst hy; subst e; exact ⟨.int k (k.wrap (a * b)), by simp [binOp, Op.intArith], fun B => .i _ _⟩
  case and e => subst hy; subst e; exact ⟨_, by simp only [binOp, Op.intBits, ne_eq, not_true_eq_false, if_false, Sem.run_pure], fun B => .i _ _⟩
  case or e => subst hy; subst e; exact ⟨_, by simp only [binOp, Op.intBits, ne_eq, not_true_eq_false, if_false, Sem.run_pure], fun B => .i _ _⟩
  case xor e => subst hy; subst e; exact ⟨_, by simp only [binOp, Op.intBits, ne_eq, not_true_eq_false, if_false, Sem.run_pure], fun B => .i _ _⟩
  case andNot e => subst hy; subst e; exact ⟨_, by simp only [binOp, Op.intBits, ne_eq, not_true_eq_false, if_false, Sem.run_pure], fun B => .i _ _⟩
  case eql e => subst hy; subst e; exact ⟨.bool (a == b), by simp [binOp, Op.intCmp], fun B => .b _⟩
  case neq e => subst hy; subst e; exact ⟨.bool (a != b), by simp [binOp, Op.intCmp], fun B => .b _⟩
  case lss e => subst hy; subst e; exact ⟨.bool (decide (a < b)), by simp [binOp, Op.intCmp], fun B => .b _⟩
  case leq e => subst hy; subst e; exact ⟨.bool (decide (a ≤ b)), by simp [binOp, Op.intCmp], fun B => .b _⟩
  case gtr e => subst hy; subst e; exact ⟨.bool (decide (a > b)), by simp [binOp, Op.intCmp], fun B => .b _⟩
  case geq e => subst hy; subst e; exact ⟨.bool (decide (a ≥ b)), by simp [binOp, Op.intCmp], fun B => .b _⟩

theorem guard_int (o : BinOp) (t : TypeId) (x y : Operand) (k k' : IntKind) (a b : Int) : (eqGuard o t x y (.int k a) (.int k' b)).run P w = .ok () w := by cases o <;> simp [eqGuard]
theorem guard_bool (o : BinOp) (t : TypeId) (x y : Operand) (a b : Bool) : (eqGuard o t x y (.bool a) (.bool b)).run P w = .ok () w := by cases o <;> simp [eqGuard]
theorem guard_string (o : BinOp) (t : TypeId) (x y : Operand) (a b : ByteArray) : (eqGuard o t x y (.string a) (.string b)).run P w = .ok () w := by cases o <;> simp [eqGuard]

theorem eqItems_cells (d : Nat) {e : TypeId} {i : TI} (hT : TIr P e i) (hd : ∃ k, i.d = .int k) (xs ys : Array Value) : ∀ (n : Nat) (as bs : List T) (o : Nat), as.length = n → bs.length = n → (∀ x ∈ as, x.isI) →
    (∀ (j : Nat) (x : T), as[j]? = some x → ∃ v, xs[o + j]? = some v ∧ Rep w (fun _ => True) v x) → (∀ (j : Nat) (x : T), bs[j]? = some x → ∃ v, ys[o + j]? = some v ∧ Rep w (fun _ => True) v x) →
    ∀ r, eqCells as bs = some r → (Op.eqItems (d + 1) e 1 xs ys (List.range' o n)).run P w = .ok r w := by
  intro n
  induction n with
  | zero =>
    intro as bs o ha hb _ _ _ r hr
    have := List.eq_nil_of_length_eq_zero ha
    have := List.eq_nil_of_length_eq_zero hb
    subst_vars
    simp [eqCells] at hr
    subst hr
    simp [Op.eqItems]
  | succ n ih =>
    intro as bs o ha hb hI hx hy r hr
    match as, bs, ha, hb with
    | a :: as, b :: bs, ha, hb =>
      obtain ⟨va, hva, hra⟩ := hx 0 a rfl
      obtain ⟨vb, hvb, hrb⟩ := hy 0 b rfl
      simp only [Nat.add_zero] at hva hvb
      have hagg : Pm.isAgg i.d = false := by rcases hd with ⟨k, e⟩; rw [e]; rfl
      have pa := part_one (w := w) hT hagg xs o va hva
      have pb := part_one (w := w) hT hagg ys o vb hvb
      have ih' : ∀ r, eqCells as bs = some r → (Op.eqItems (d + 1) e 1 xs ys (List.range' (o + 1) n)).run P w = .ok r w := fun r hr =>
        ih as bs (o + 1) (by simpa using ha) (by simpa using hb) (fun x hx => hI x (by simp [hx])) (fun j x hj => by have := hx (j + 1) x (by simpa using hj); rwa [show o + (j + 1) = o + 1 + j by omega] at this)
          (fun j x hj => by have := hy (j + 1) x (by simpa using hj); rwa [show o + (j + 1) = o + 1 + j by omega] at this) r hr
      obtain ⟨de, hde, hdk⟩ := hT.und
      have hia := hI a (by simp)
      cases a <;> cases b <;> simp only [eqCells, reduceCtorEq] at hr
      case i.i k x k' y =>
        cases hra; cases hrb
        split at hr
        · rename_i hk
          subst hk
          simp only [Option.map_eq_some_iff] at hr
          obtain ⟨r', hr', rfl⟩ := hr
          have ht : (Op.equalIn (d + 1) e (.int k x) (.int k y)).run P w = .ok (x == y) w := by
            rcases hd with ⟨k2, e'⟩
            rw [e'] at hdk
            cases de <;> first | exact (Bool.false_ne_true hdk).elim | exact run_equalIn_int w d e k _ x y hde
          simp only [List.range'_succ, Op.eqItems, Sem.run_bind, Nat.mul_one, pa, pb, Result.andThen_ok, ht]
          cases hxy : (x == y)
          · simp
          · simpa using ih' r' hr'
        · cases hr
      case b.b x y => exact hia.elim

theorem elemOfA_some {t n : Nat} {i : TI} (hP : TIok P ti) (h : elemOfA ti t = some (n, i)) : ∃ e, P.underlying t = some (.array n e) ∧ TIr P e i := by
  unfold elemOfA at h
  split at h
  · rename_i n' e _ _ _ hti
    simp only [Option.map_eq_some_iff, Prod.mk.injEq] at h
    obtain ⟨i', hi', rfl, rfl⟩ := h
    obtain ⟨d, hd, ho⟩ := (hP.ok _ _ hti).und
    refine ⟨e, ?_, hP.ok _ _ hi'⟩
    cases d <;> first | exact (Bool.false_ne_true ho).elim | skip
    simp only [dOK, Bool.and_eq_true, beq_iff_eq] at ho
    rw [hd, ho.1, ho.2]
  · cases h
theorem elemOfS_some {t : Nat} {i : TI} (hP : TIok P ti) (h : elemOfS ti t = some i) : ∃ e, P.underlying t = some (.slice e) ∧ TIr P e i := by
  unfold elemOfS at h
  split at h
  · rename_i e _ _ _ hti
    obtain ⟨d, hd, ho⟩ := (hP.ok _ _ hti).und
    refine ⟨e, ?_, hP.ok _ _ h⟩
    cases d <;> first | exact (Bool.false_ne_true ho).elim | skip
    simp only [dOK, beq_iff_eq] at ho
    rw [hd, ho]
  · cases h

theorem nilQ_sound (hP : TIok P ti) {o : BinOp} {t : TypeId} (hok : (elemOfS ti t).isSome = true) {m : Mp} {B : Nat} {h : H} {u v : AV} {y : Bool} (hy : nilQ o u v = some y) (a b : Operand) {va vb : Value} (ha : VR m B h w va u) (hb : VR m B h w vb v) :
    (eqGuard o t a b va vb).run P w = .ok () w ∧ (binOp o t va vb).run P w = .ok (.bool y) w := by
  obtain ⟨i, hi⟩ := Option.isSome_iff_exists.1 hok
  obtain ⟨e, hu, _⟩ := elemOfS_some hP hi
  have hb' : vb = .slice none 0 0 ∧ nilU o u = some y := by
    cases v
    case nl => cases hb; exact ⟨rfl, hy⟩
    all_goals (have h0 : (none : Option Bool) = some y := hy; cases h0)
  clear hy
  obtain ⟨rfl, hy⟩ := hb'
  have key : ∃ A n c, va = .slice A n c ∧ ((o = .eql ∧ y = A.isNone) ∨ (o = .neq ∧ y = !A.isNone)) := by
    cases ha
    case nl => cases o <;> simp [nilU] at hy <;> subst hy <;> exact ⟨none, 0, 0, rfl, by simp⟩
    case t x l hr =>
      cases hr
      case sl A n c es z vals hn hc hm hz0 hz hA hv =>
        cases es with
        | nil => simp [nilU] at hy
        | cons e es =>
          obtain ⟨ad, rfl, _⟩ := hA (by rw [← hn]; simp)
          cases o <;> simp [nilU] at hy <;> subst hy <;> exact ⟨some ad, n, c, rfl, by simp⟩
      case ne a c => cases o <;> simp [nilU] at hy <;> subst hy <;> exact ⟨some a, 0, c, rfl, by simp⟩
      all_goals (have h0 : (none : Option Bool) = some y := hy; cases h0)
    all_goals (have h0 : (none : Option Bool) = some y := hy; cases h0)
  obtain ⟨A, n, c, rfl, hc⟩ := key
  rcases hc with ⟨rfl, rfl⟩ | ⟨rfl, rfl⟩
  · exact ⟨by simp [eqGuard], by simp [binOp, run_equal_slice_nil _ _ _ _ _ _ hu]⟩
  · exact ⟨by simp [eqGuard], by simp [binOp, run_equal_slice_nil _ _ _ _ _ _ hu]⟩

theorem binT_sound (hP : TIok P ti) {o : BinOp} {t : TypeId} {p r y : T} (hok : aggOK ti t p) (hy : binT o p r = some y) (a b : Operand) {va vb : Value} (ha : Rep w (fun _ => True) va p) (hb : Rep w (fun _ => True) vb r) :
    (eqGuard o t a b va vb).run P w = .ok () w ∧ ∃ u, (binOp o t va vb).run P w = .ok u w ∧ ∀ B, Rep w B u y := by
  cases ha <;> cases hb <;> simp only [binT, reduceCtorEq] at hy
  case i.i => exact ⟨guard_int .., binI_sound hy t⟩
  case b.b x y' =>
    have hu : P.underlying t = some .bool := by
      unfold aggOK at hok
      simp only at hok
      split at hok
      · rename_i hti
        obtain ⟨d, hd, ho⟩ := (hP.ok _ _ hti).und
        cases d <;> first | exact (Bool.false_ne_true ho).elim | exact hd
      · exact hok.elim
    refine ⟨guard_bool .., ?_⟩
    cases o <;> simp only [Option.some.injEq, reduceCtorEq] at hy <;> subst hy
    · exact ⟨.bool (x == y'), run_eql_bool w t x y' hu, fun B => .b _⟩
    · exact ⟨.bool (!(x == y')), run_neq_bool w t x y' hu, fun B => .b _⟩
  case s.s x y' =>
    refine ⟨guard_string .., ?_⟩
    cases o <;> simp only [Option.some.injEq, reduceCtorEq] at hy <;> subst hy
    · exact ⟨.bool (x.toList == y'.toList), by simp [binOp, Op.stringOp], fun B => .b _⟩
    · exact ⟨.bool (!(x.toList == y'.toList)), by simp [binOp, Op.stringOp], fun B => .b _⟩
  case agg.agg vs cs hs hv vs' cs' hs' hv' =>
    unfold aggOK at hok
    simp only at hok
    cases he : elemOfA ti t with
    | none => rw [he] at hok; exact hok.elim
    | some ni =>
      obtain ⟨n, i⟩ := ni
      rw [he] at hok
      obtain ⟨hn, hsz, hd, hI⟩ := hok
      obtain ⟨e, hu, hT⟩ := elemOfA_some hP he
      have hd' : ∃ k, i.d = .int k := by
        revert hd
        cases i.d <;> simp
      obtain ⟨de, hde, hdk⟩ := hT.und
      have hint : ∃ k, P.underlying e = some (.int k) := by
        obtain ⟨k, hk⟩ := hd'
        rw [hk] at hdk
        cases de <;> first | exact (Bool.false_ne_true hdk).elim | exact ⟨_, hde⟩
      obtain ⟨k, hk⟩ := hint
      have hg : P.eqGuardType P.depth t = false := by
        have : ∃ q, P.depth = q + 2 := ⟨2 * (P.types.size + Made.depth), rfl⟩
        obtain ⟨q, hq⟩ := this
        rw [hq]
        simp [Program.eqGuardType, hu, hk]
      refine ⟨run_eqGuard_agg w o t a b _ _ hg, ?_⟩
      obtain ⟨inf, hi, hisz, _⟩ := hT.info
      have hce : P.cellsOf e = 1 := by simp [Program.cellsOf, hi, hisz, hsz]
      have key : ∀ r', eqCells cs cs' = some r' → (Op.equalIn 10000 t (.agg vs) (.agg vs')).run P w = .ok r' w := fun r' hr' => by
        have hlen : cs'.length = n := by
          have : ∀ (as bs : List T) r, eqCells as bs = some r → as.length = bs.length := by
            intro as
            induction as with
            | nil => intro bs r h; cases bs <;> simp [eqCells] at h ⊢
            | cons x xs ih =>
              intro bs r h
              cases bs with
              | nil => cases x <;> simp [eqCells] at h
              | cons y ys =>
                have : ∃ r', eqCells xs ys = some r' := by
                  cases x <;> cases y <;> simp only [eqCells, reduceCtorEq] at h
                  · split at h
                    · simp only [Option.map_eq_some_iff] at h; obtain ⟨r', hr', _⟩ := h; exact ⟨r', hr'⟩
                    · cases h
                  · simp only [Option.map_eq_some_iff] at h; obtain ⟨r', hr', _⟩ := h; exact ⟨r', hr'⟩
                obtain ⟨r', hr'⟩ := this
                simp [ih ys r' hr']
          rw [← this _ _ _ hr', hn]
        rw [run_equalIn_array w 9999 vs vs' hu hi, hce, List.range_eq_range']
        refine eqItems_cells 9998 hT hd' vs vs' n cs cs' 0 hn hlen hI (fun j x hj => ?_) (fun j x hj => ?_) r' hr'
        · have hlt := (List.getElem?_eq_some_iff.1 hj).1
          have hv0 : vs[j]? = some vs[j] := by simp [hs, hlt]
          exact ⟨vs[j], by rw [Nat.zero_add]; exact hv0, hv j _ _ hv0 hj⟩
        · have hlt := (List.getElem?_eq_some_iff.1 hj).1
          have hv0 : vs'[j]? = some vs'[j] := by simp [hs', hlt]
          exact ⟨vs'[j], by rw [Nat.zero_add]; exact hv0, hv' j _ _ hv0 hj⟩
      cases o <;> simp only [Option.map_eq_some_iff, reduceCtorEq] at hy <;> obtain ⟨r', hr', rfl⟩ := hy
      · exact ⟨.bool r', by rw [run_eql_struct, key r' hr']; rfl, fun B => .b _⟩
      · exact ⟨.bool (!r'), by rw [run_neq_struct, key r' hr']; rfl, fun B => .b _⟩

theorem unT_sound {o : UnOp} {p y : T} (hy : unT o p = some y) {va : Value} (ha : Rep w (fun _ => True) va p) : ∃ u, (Op.unary o va).run P w = .ok u w ∧ ∀ B, Rep w B u y := by
  cases ha <;> cases o <;> simp only [unT, Option.some.injEq, reduceCtorEq] at hy <;> subst hy
  case i.neg k n => exact ⟨.int k (k.wrap (0 - n)), by simp [Op.unary, Op.intArith], fun B => .i _ _⟩
  case i.xor k n => exact ⟨_, by simp only [Op.unary, Op.intBits, Sem.run_pure], fun B => .i _ _⟩
  case b.not x => exact ⟨.bool !x, by simp [Op.unary], fun B => .b _⟩
end
end Go.Proofs.Ytadnjellfiafaaa.Pm
