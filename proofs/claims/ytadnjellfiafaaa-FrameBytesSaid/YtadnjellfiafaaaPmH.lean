/- The abstract machine, eighth part: fields, elements, what has one step. No law of Go's is stated here. -/
import Derived.Test.YtadnjellfiafaaaPmG
set_option linter.all false
namespace Go.Proofs.Ytadnjellfiafaaa.Pm
open Go Go.RowKit

section
variable {P : Program} {w : World} {c : Ct} {m : Mp} {h h1 : H} {ti : Nat → Option TI} {tm : Tm} {a : Act}

theorem fieldOf_some (hP : TIok P ti) {t f o : Nat} {i : TI} (hf : fieldOf ti t f = some (o, i)) : ∃ fs fl, P.underlying t = some (.struct fs) ∧ fs[f]? = some fl ∧ fl.offset = o ∧ TIr P fl.type i := by
  unfold fieldOf at hf
  split at hf
  · rename_i l _ _ _ hti
    split at hf
    · rename_i o' ft hl
      simp only [Option.map_eq_some_iff, Prod.mk.injEq] at hf
      obtain ⟨i', hi', rfl, rfl⟩ := hf
      obtain ⟨d, hd, ho⟩ := (hP.ok _ _ hti).und
      cases d <;> first | exact (Bool.false_ne_true ho).elim | skip
      rename_i fs
      simp only [dOK, beq_iff_eq] at ho
      rw [← ho, List.getElem?_map] at hl
      simp only [Option.map_eq_some_iff, Prod.mk.injEq] at hl
      obtain ⟨fl, h1, rfl, rfl⟩ := hl
      exact ⟨fs, fl, hd, by simpa using h1, rfl, hP.ok _ _ hi'⟩
    · cases hf
  · cases hf

theorem run_fieldAt {t f o : Nat} {i : TI} (hP : TIok P ti) (hf : fieldOf ti t f = some (o, i)) (hz : i.sz ≠ 0) (x : Addr) : (Instr.fieldAt t (.pointer (some x)) f).run P w = .ok (.pointer (some (x.add o))) w := by
  obtain ⟨fs, fl, hu, hfl, rfl, hT⟩ := fieldOf_some hP hf
  simp [Instr.fieldAt, run_underlying hu, hfl, Instr.sureAddr, fieldPlace, hT.run_size, hz]
theorem run_field {t f o : Nat} {i : TI} (hP : TIok P ti) (hf : fieldOf ti t f = some (o, i)) (vs : Array Value) : ∃ ft, TIr P ft i ∧ (Instr.field t (.agg vs) f).run P w = (part ft vs o).run P w := by
  obtain ⟨fs, fl, hu, hfl, rfl, hT⟩ := fieldOf_some hP hf
  exact ⟨fl.type, hT, by simp [Instr.field, run_underlying hu, hfl, asAgg]⟩

/-- A value whose places come later: a pointer to them. -/
theorem pt_drop {B : Nat → Prop} {v : Value} {cs : List T} (hr : Rep w B v (.pt cs)) (o : Nat) : ∃ x, v = .pointer (some x) ∧ Rep w B (.pointer (some (x.add o))) (.pt (cs.drop o)) := by
  cases hr with
  | pt x _ vals hB hc hv =>
    refine ⟨x, rfl, .pt _ _ (fun j => vals (o + j)) (by rw [block_add]; exact hB) (fun j hj => ?_) (fun j y hy => ?_)⟩
    · rw [add_add']
      exact hc _ (by simp at hj; omega)
    · rw [List.getElem?_drop] at hy
      exact hv _ _ hy

theorem run_indexAt_slice {t e : TypeId} {i : TI} (hu : P.underlying t = some (.slice e)) (hT : TIr P e i) (x : Addr) (len cap : Nat) (k : IntKind) (p : Int) (h0 : 0 ≤ p) (h1 : p < len) :
    (Instr.indexAt t (.slice (some x) len cap) (.int k p)).run P w = .ok (.pointer (some (x.add (p.toNat * i.sz)))) w := by
  simp [Instr.indexAt, asIntOf, run_underlying hu, h0, h1, hT.run_size]
theorem run_indexAt_array {t e : TypeId} {n : Nat} {i : TI} (hu : P.underlying t = some (.array n e)) (hT : TIr P e i) (x : Addr) (k : IntKind) (p : Int) (h0 : 0 ≤ p) (h1 : p < n) :
    (Instr.indexAt t (.pointer (some x)) (.int k p)).run P w = .ok (.pointer (some (x.add (p.toNat * i.sz)))) w := by
  simp [Instr.indexAt, asIntOf, run_underlying hu, h0, h1, hT.run_size, Instr.sureAddr]

theorem qIxA_sound (hP : TIok P ti) (hM : Mem c m h w) (hs : Sub h1 h) {t : Nat} {v : AV} {rv : Value} (hv : VR m c.B h w rv v) {k : IntKind} {p : Int} {pr : Prop} {x : AV} {us : List (Nat × Blk)}
    (hq : qIxA ti h1 t v p = some (pr, x, us)) (hp : pr) : us = [] ∧ ∃ r, (Instr.indexAt t rv (.int k p)).run P w = .ok r w ∧ VR m c.B h w r x := by
  unfold qIxA at hq
  split at hq
  · rename_i es l
    split at hq
    · rename_i i hi
      simp only [Option.some.injEq, Prod.mk.injEq] at hq
      obtain ⟨rfl, rfl, rfl⟩ := hq
      obtain ⟨h0, hsome, hel, hz0⟩ := hp
      obtain ⟨e, he⟩ := Option.isSome_iff_exists.1 hsome
      rw [he] at hel ⊢
      simp only [Option.getD_some] at hel ⊢
      obtain ⟨et, hu, hT⟩ := elemOfS_some hP hi
      have hlt := (List.getElem?_eq_some_iff.1 he).1
      cases hv with
      | t _ _ _ hr =>
        cases hr with
        | sl A n cap _ z vals hn hcap hroom hz0 hz hA hvv =>
          obtain ⟨ad, rfl, hB, hcell⟩ := hA (by omega)
          have hzz : z = i.sz := by rw [← hel]; exact (hz _ _ he).symm
          subst hzz
          refine ⟨by trivial, _, run_indexAt_slice hu hT ad n cap k p h0 (by omega), .t _ _ _ (.pt _ _ (fun j => vals p.toNat j) (by rw [block_add]; exact hB) (fun j hj => ?_) (fun j y hy => hvv _ _ _ _ he hy))⟩
          rw [add_add']
          exact hcell _ _ (by omega) (by omega)
    · cases hq
  · rename_i id ver off len
    split at hq
    · rename_i i z es l hi hrow
      simp only [Option.some.injEq, Prod.mk.injEq] at hq
      obtain ⟨rfl, rfl, rfl⟩ := hq
      obtain ⟨h0, h1', h2, rfl, h3⟩ := hp
      obtain ⟨et, hu, hT⟩ := elemOfS_some hP hi
      cases hv with
      | row _ _ _ _ cap A hid hver hcap hr =>
        obtain ⟨_, hrow'⟩ := hs.row hrow
        obtain ⟨h4, h5⟩ := hr _ _ _ hrow'
        rw [h5 (by omega)]
        refine ⟨rfl, _, run_indexAt_slice hu hT _ len cap k p h0 h1', .eptr _ _ _ _ _ hid hver fun z' es' l' hrow'' => ?_⟩
        rw [hrow'] at hrow''
        simp at hrow''
        obtain ⟨rfl, _⟩ := hrow''
        rw [add_add', Nat.add_mul, Nat.add_zero]
    · cases hq
  · rename_i id off len z
    split at hq
    · rename_i i hi
      simp only [Option.some.injEq, Prod.mk.injEq] at hq
      obtain ⟨rfl, rfl, rfl⟩ := hq
      obtain ⟨h0, h1', rfl⟩ := hp
      obtain ⟨et, hu, hT⟩ := elemOfS_some hP hi
      cases hv with
      | vs _ _ _ _ cap A hid hcap hA =>
        rw [hA (by omega)]
        refine ⟨rfl, _, run_indexAt_slice hu hT _ len cap k p h0 h1', ?_⟩
        rw [add_lit]
        exact .ptr _ _ hid
    · cases hq
  · rename_i id off
    split at hq
    · rename_i n i hi
      simp only [Option.some.injEq, Prod.mk.injEq] at hq
      obtain ⟨rfl, rfl, rfl⟩ := hq
      obtain ⟨et, hu, hT⟩ := elemOfA_some hP hi
      cases hv with
      | ptr _ _ hid =>
        refine ⟨rfl, _, run_indexAt_array hu hT _ k p hp.1 hp.2, ?_⟩
        rw [add_lit]
        exact .ptr _ _ hid
    · cases hq
  · rename_i cs l
    split at hq
    · rename_i n i hi
      simp only [Option.some.injEq, Prod.mk.injEq] at hq
      obtain ⟨rfl, rfl, rfl⟩ := hq
      obtain ⟨et, hu, hT⟩ := elemOfA_some hP hi
      cases hv with
      | t _ _ _ hr =>
        obtain ⟨y, rfl, hy⟩ := pt_drop hr (p.toNat * i.sz)
        exact ⟨rfl, _, run_indexAt_array hu hT _ k p hp.1 hp.2, .t _ _ _ hy⟩
    · cases hq
  · rename_i id ver k' j
    split at hq
    · rename_i n i hi
      simp only [Option.some.injEq, Prod.mk.injEq] at hq
      obtain ⟨rfl, rfl, rfl⟩ := hq
      obtain ⟨et, hu, hT⟩ := elemOfA_some hP hi
      cases hv with
      | eptr _ _ _ _ x hid hver hr =>
        refine ⟨rfl, _, run_indexAt_array hu hT _ k p hp.1 hp.2, .eptr _ _ _ _ _ hid hver fun z es l hrow => ?_⟩
        rw [hr _ _ _ hrow, add_add', Nat.add_assoc]
    · cases hq
  · cases hq

theorem evs_vr (hS : Sat c m h tm a w) : ∀ {l : List Operand} {vs : List AV}, evs tm l = some vs → (l.map a.eval).length = vs.length ∧ ∀ (j : Nat) (v : Value) (x : AV), (l.map a.eval)[j]? = some v → vs[j]? = some x → VR m c.B h w v x
  | [], vs, hv => by simp [evs] at hv; subst hv; simp
  | o :: l, vs, hv => by
    simp only [evs] at hv
    split at hv
    · rename_i v vs' h1 h2
      simp only [Option.some.injEq] at hv
      subst hv
      obtain ⟨hl, hg⟩ := evs_vr hS h2
      refine ⟨by simpa using hl, fun j u x hu hx => ?_⟩
      cases j with
      | zero => simp at hu hx; subst hu; subst hx; exact ev_vr hS h1
      | succ j => exact hg j u x (by simpa using hu) (by simpa using hx)
    · cases hv

theorem evs_one (hS : Sat c m h tm a w) {l : List Operand} {v : AV} (hv : evs tm l = some [v]) : ∃ o, l = [o] ∧ VR m c.B h w (a.eval o) v := by
  obtain ⟨hl, hg⟩ := evs_vr hS hv
  match l, hl with
  | [o], _ => exact ⟨o, rfl, hg 0 _ _ rfl rfl⟩
theorem evs_two (hS : Sat c m h tm a w) {l : List Operand} {u v : AV} (hv : evs tm l = some [u, v]) : ∃ o p, l = [o, p] ∧ VR m c.B h w (a.eval o) u ∧ VR m c.B h w (a.eval p) v := by
  obtain ⟨hl, hg⟩ := evs_vr hS hv
  match l, hl with
  | [o, p], _ => exact ⟨o, p, rfl, hg 0 _ _ rfl rfl, hg 1 _ _ rfl rfl⟩

/-- An operation has run: what it yielded, the world, the memory. -/
def Out (c : Ct) (h : H) (tm : Tm) (a : Act) (r : Result Value) (v : AV) : Prop := ∃ rv w' m', r = .ok rv w' ∧ VR m' c.B h w' rv v ∧ Sat c m' h tm a w'

theorem Out.same (hS : Sat c m h tm a w) {r : Result Value} {v : AV} (hr : ∃ rv, r = .ok rv w ∧ VR m c.B h w rv v) : Out c h tm a r v := by
  obtain ⟨rv, h1, h2⟩ := hr
  exact ⟨rv, w, m, h1, h2, hS⟩

/-- The blocks, some of them anew. -/
def uH (h : H) : List (Nat × Blk) → H
  | [] => h
  | u :: us => uH (fun i => if i = u.1 then some u.2 else h i) us

theorem run_v {s : Sem Value} {r : Result Value} (hr : s.run P w = r) : (do pure (Next.value (← s)) : Sem Next).run P w = r.andThen fun v w' => .ok (.value v) w' := by
  simp only [Sem.run_bind, hr, Sem.run_pure]

theorem lenOf_vr {v : AV} {n : Nat} (hl : lenOf v = some n) {rv : Value} (hv : VR m c.B h w rv v) : ∃ A k, rv = .slice A n k := by
  unfold lenOf at hl
  split at hl <;> simp only [Option.some.injEq, reduceCtorEq] at hl <;> subst hl
  · cases hv with
    | t _ _ _ hr => cases hr with | sl A n k _ z vals hn => subst hn; exact ⟨_, _, rfl⟩
  · cases hv; exact ⟨_, _, rfl⟩
  · cases hv; exact ⟨_, _, rfl⟩
  · cases hv; exact ⟨_, _, rfl⟩
  · cases hv; exact ⟨_, _, rfl⟩
theorem qLen_sound (hP : TIok P ti) {t : Nat} {v : AV} {rv : Value} (hv : VR m c.B h w rv v) (ty : TypeId) {p : Prop} {x : AV} {us : List (Nat × Blk)} (hq : qLen ti t v = some (p, x, us)) (hp : p) :
    us = [] ∧ ∃ r, (Builtin.len_ #[t] ty #[rv]).run P w = .ok r w ∧ VR m c.B h w r x := by
  unfold qLen at hq
  split at hq
  · rename_i y l hti
    simp only [okR, Option.some.injEq, Prod.mk.injEq] at hq
    obtain ⟨rfl, rfl, rfl⟩ := hq
    obtain ⟨d, hd, ho⟩ := (hP.ok _ _ hti).und
    cases d <;> first | exact (Bool.false_ne_true ho).elim | skip
    cases hv with
    | t _ _ _ hr =>
      cases hr
      exact ⟨rfl, .int .i64 y.size, by simp [Builtin.len_, run_underlying hd, goInt], .t _ _ _ (.i _ _)⟩
  · rename_i e _ _ _ v hti
    split at hq
    · rename_i n hl
      simp only [okR, Option.some.injEq, Prod.mk.injEq] at hq
      obtain ⟨rfl, rfl, rfl⟩ := hq
      obtain ⟨d, hd, ho⟩ := (hP.ok _ _ hti).und
      cases d <;> first | exact (Bool.false_ne_true ho).elim | skip
      obtain ⟨A, k, rfl⟩ := lenOf_vr hl hv
      exact ⟨rfl, .int .i64 n, by simp [Builtin.len_, run_underlying hd, goInt], .t _ _ _ (.i _ _)⟩
    · cases hq
  · cases hq

/-- The operations that neither make nor write. -/
def still : Op → Bool
  | .move _ | .assign _ | .pick .. | .load .. | .nilCheck _ | .binOp .. | .unOp .. | .slice .. | .fieldAddr .. | .field .. | .indexAddr .. | .index .. | .extract .. | .makeFunc .. => true
  | .call { callee := .builtin b, .. } => match b with
    | .len | .cap | .min | .max => true
    | _ => false
  | _ => false

theorem q_still (hP : TIok P ti) (hS : Sat c m h tm a w) (hs : Sub h1 h) {n : Nat} {o : Oper} (ho : still o.op = true) {p : Prop} {v : AV} {us : List (Nat × Blk)} (hq : q ti tm h1 n o.op = some (p, v, us)) (hp : p) :
    us = [] ∧ ∃ rv, (execOp a.eval o).run P w = .ok (.value rv) w ∧ VR m c.B h w rv v := by
  obtain ⟨dst, op, ty, pos, after, guard⟩ := o
  simp only at ho hq ⊢
  cases op <;> simp only [still, Bool.false_eq_true] at ho
  case move x =>
    simp only [q] at hq
    split at hq
    · rename_i u hu
      simp only [okR, Option.some.injEq, Prod.mk.injEq] at hq
      obtain ⟨rfl, rfl, rfl⟩ := hq
      exact ⟨rfl, _, by simp [execOp], ev_vr hS hu⟩
    · cases hq
  case assign x =>
    simp only [q] at hq
    split at hq
    · rename_i u hu
      simp only [okR, Option.some.injEq, Prod.mk.injEq] at hq
      obtain ⟨rfl, rfl, rfl⟩ := hq
      exact ⟨rfl, _, by simp [execOp], ev_vr hS hu⟩
    · cases hq
  case pick x y z =>
    simp only [q] at hq
    split at hq
    · rename_i b l hx
      have hb := ev_vr hS hx
      generalize hbe : a.eval x = bv at hb
      cases hb with
      | t _ _ _ hr =>
        cases hr
        split at hq
        · rename_i u hu
          simp only [okR, Option.some.injEq, Prod.mk.injEq] at hq
          obtain ⟨rfl, rfl, rfl⟩ := hq
          cases b
          · exact ⟨rfl, _, by simp [execOp, hbe, asBool]; rfl, ev_vr hS (by simpa using hu)⟩
          · exact ⟨rfl, _, by simp [execOp, hbe, asBool]; rfl, ev_vr hS (by simpa using hu)⟩
        · cases hq
    · cases hq
  case load t x =>
    simp only [q] at hq
    split at hq
    · rename_i u hu
      obtain ⟨h1', r, h2, h3⟩ := qLoad_sound hP hS.mem hs (ev_vr hS hu) hq hp
      exact ⟨h1', r, by simp only [execOp, Sem.run_bind, h2]; rfl, h3⟩
    · cases hq
  case nilCheck x =>
    simp only [q] at hq
    split at hq
    · rename_i id off hu
      simp only [okR, Option.some.injEq, Prod.mk.injEq] at hq
      obtain ⟨rfl, rfl, rfl⟩ := hq
      have hv := ev_vr hS hu
      refine ⟨rfl, a.eval x, ?_, hv⟩
      generalize he : a.eval x = r at hv
      cases hv
      simp [execOp, he]
    · rename_i id ver k j hu
      simp only [okR, Option.some.injEq, Prod.mk.injEq] at hq
      obtain ⟨rfl, rfl, rfl⟩ := hq
      have hv := ev_vr hS hu
      refine ⟨rfl, a.eval x, ?_, hv⟩
      generalize he : a.eval x = r at hv
      cases hv
      simp [execOp, he]
    · rename_i cs l hu
      simp only [okR, Option.some.injEq, Prod.mk.injEq] at hq
      obtain ⟨rfl, rfl, rfl⟩ := hq
      have hv := ev_vr hS hu
      refine ⟨rfl, a.eval x, ?_, hv⟩
      generalize he : a.eval x = r at hv
      cases hv with
      | t _ _ _ hr =>
        cases hr
        simp [execOp, he]
    · rename_i f cap hu
      simp only [okR, Option.some.injEq, Prod.mk.injEq] at hq
      obtain ⟨rfl, rfl, rfl⟩ := hq
      have hv := ev_vr hS hu
      refine ⟨rfl, a.eval x, ?_, hv⟩
      generalize he : a.eval x = r at hv
      cases hv
      simp [execOp, he]
    · cases hq
  case binOp op t x y t' =>
    simp only [q] at hq
    split at hq
    · rename_i u v' hu hv'
      split at hq
      · rename_i y0 hy0
        simp only [Option.some.injEq, Prod.mk.injEq] at hq
        obtain ⟨rfl, rfl, rfl⟩ := hq
        obtain ⟨hg, hrun⟩ := nilQ_sound (P := P) (w := w) hP hp hy0 x y (ev_vr hS hu) (ev_vr hS hv')
        exact ⟨rfl, _, by simp only [execOp, Sem.run_bind, hg, Result.andThen_ok, hrun]; rfl, .t _ _ _ (.b _)⟩
      · split at hq
        · rename_i p' r' hp' hr'
          split at hq
          · rename_i y' hy'
            simp only [Option.some.injEq, Prod.mk.injEq] at hq
            obtain ⟨rfl, rfl, rfl⟩ := hq
            obtain ⟨hg, rv, hrun, hrep⟩ := binT_sound (w := w) hP hp hy' x y (pureT_rep hp' (ev_vr hS hu)) (pureT_rep hr' (ev_vr hS hv'))
            exact ⟨rfl, rv, by simp only [execOp, Sem.run_bind, hg, Result.andThen_ok, hrun]; rfl, .t _ _ _ (hrep _)⟩
          · cases hq
        · cases hq
    · cases hq
  case unOp op t x =>
    simp only [q] at hq
    split at hq
    · rename_i p' l hu
      split at hq
      · rename_i y' hy'
        simp only [okR, Option.some.injEq, Prod.mk.injEq] at hq
        obtain ⟨rfl, rfl, rfl⟩ := hq
        obtain ⟨rv, hrun, hrep⟩ := unT_sound (P := P) (w := w) hy' (pureT_rep (p := p') rfl (ev_vr hS hu))
        exact ⟨rfl, rv, by simp only [execOp, Sem.run_bind, hrun, Result.andThen_ok]; rfl, .t _ _ _ (hrep _)⟩
      · cases hq
    · cases hq
  case slice t x lo hi mx =>
    simp only [q] at hq
    split at hq
    · rename_i u hu
      obtain ⟨h1', r, h2, h3⟩ := qSlice_sound (P := P) hP hS hs (ev_vr hS hu) hq hp
      exact ⟨h1', r, by simp only [execOp, Sem.run_bind, h2]; rfl, h3⟩
    · cases hq
  case fieldAddr t x f =>
    simp only [q] at hq
    split at hq
    · rename_i id off o i hu hf
      simp only [Option.some.injEq, Prod.mk.injEq] at hq
      obtain ⟨rfl, rfl, rfl⟩ := hq
      have hv := ev_vr hS hu
      generalize he : a.eval x = r at hv
      cases hv with
      | ptr _ _ hid => exact ⟨rfl, _, by simp only [execOp, he, Sem.run_bind, run_fieldAt hP hf hp, Result.andThen_ok]; rfl, by rw [add_lit]; exact .ptr _ _ hid⟩
    · rename_i cs l o i hu hf
      simp only [Option.some.injEq, Prod.mk.injEq] at hq
      obtain ⟨rfl, rfl, rfl⟩ := hq
      have hv := ev_vr hS hu
      generalize he : a.eval x = r at hv
      cases hv with
      | t _ _ _ hr =>
        obtain ⟨y, rfl, hy⟩ := pt_drop hr o
        exact ⟨rfl, _, by simp only [execOp, he, Sem.run_bind, run_fieldAt hP hf hp, Result.andThen_ok]; rfl, .t _ _ _ hy⟩
    · rename_i id ver k j o i hu hf
      simp only [Option.some.injEq, Prod.mk.injEq] at hq
      obtain ⟨rfl, rfl, rfl⟩ := hq
      have hv := ev_vr hS hu
      generalize he : a.eval x = r at hv
      cases hv with
      | eptr _ _ _ _ y hid hver hr =>
        exact ⟨rfl, _, by simp only [execOp, he, Sem.run_bind, run_fieldAt hP hf hp, Result.andThen_ok]; rfl, .eptr _ _ _ _ _ hid hver fun z es l hrow => by rw [hr _ _ _ hrow, add_add', Nat.add_assoc]⟩
    · cases hq
  case field t x f =>
    simp only [q] at hq
    split at hq
    · rename_i cs l o i hu hf
      have hv := ev_vr hS hu
      generalize he : a.eval x = r at hv
      cases hv with
      | t _ _ _ hr =>
        cases hr with
        | agg vs _ hsz hvv =>
          obtain ⟨ft, hT, hrun⟩ := run_field (P := P) (w := w) hP hf vs
          obtain ⟨h1', r, h2, h3⟩ := partT_sound (h := h) hT hsz hvv hq hp
          exact ⟨h1', r, by simp only [execOp, he, Sem.run_bind, hrun, h2, Result.andThen_ok]; rfl, h3⟩
    · rename_i cs o i hu hf
      have hv := ev_vr hS hu
      generalize he : a.eval x = r at hv
      cases hv with
      | agg vs _ hsz hvv =>
        obtain ⟨ft, hT, hrun⟩ := run_field (P := P) (w := w) hP hf vs
        obtain ⟨h1', r, h2, h3⟩ := partA_sound (h := h) hT hsz hvv hq hp
        exact ⟨h1', r, by simp only [execOp, he, Sem.run_bind, hrun, h2, Result.andThen_ok]; rfl, h3⟩
    · cases hq
  case indexAddr t x y =>
    simp only [q] at hq
    split at hq
    · rename_i u k p' l hu hy
      have hi := ev_vr hS hy
      generalize he : a.eval y = r at hi
      cases hi with
      | t _ _ _ hr =>
        cases hr
        obtain ⟨h1', r, h2, h3⟩ := qIxA_sound (P := P) (k := k) hP hS.mem hs (ev_vr hS hu) hq hp
        exact ⟨h1', r, by simp only [execOp, he, Sem.run_bind, h2, Result.andThen_ok]; rfl, h3⟩
    · cases hq
  case index t x y =>
    simp only [q] at hq
    split at hq
    · rename_i cs l k p' l' n i hu hy hA
      split at hq
      · rename_i r' v' u' hpart
        simp only [Option.some.injEq, Prod.mk.injEq] at hq
        obtain ⟨rfl, rfl, rfl⟩ := hq
        obtain ⟨h0, hlt, hp'⟩ := hp
        have hi := ev_vr hS hy
        generalize he : a.eval y = r at hi
        have hv := ev_vr hS hu
        generalize hex : a.eval x = rx at hv
        cases hi with
        | t _ _ _ hr =>
          cases hr
          cases hv with
          | t _ _ _ hr =>
            cases hr with
            | agg vs _ hsz hvv =>
              obtain ⟨et, hut, hT⟩ := elemOfA_some hP hA
              obtain ⟨h1', r, h2, h3⟩ := partT_sound (h := h) hT hsz hvv hpart hp'
              exact ⟨h1', r, by simp [execOp, he, hex, Instr.index, asIntOf, run_underlying hut, h0, hlt, hT.run_size, h2], h3⟩
      · cases hq
    · rename_i cs k p' l' n i hu hy hA
      split at hq
      · rename_i r' v' u' hpart
        simp only [Option.some.injEq, Prod.mk.injEq] at hq
        obtain ⟨rfl, rfl, rfl⟩ := hq
        obtain ⟨h0, hlt, hp'⟩ := hp
        have hi := ev_vr hS hy
        generalize he : a.eval y = r at hi
        have hv := ev_vr hS hu
        generalize hex : a.eval x = rx at hv
        cases hi with
        | t _ _ _ hr =>
          cases hr
          cases hv with
          | agg vs _ hsz hvv =>
            obtain ⟨et, hut, hT⟩ := elemOfA_some hP hA
            obtain ⟨h1', r, h2, h3⟩ := partA_sound (h := h) hT hsz hvv hpart hp'
            exact ⟨h1', r, by simp [execOp, he, hex, Instr.index, asIntOf, run_underlying hut, h0, hlt, hT.run_size, h2], h3⟩
      · cases hq
    · cases hq
  case extract x k =>
    simp only [q] at hq
    split at hq
    · rename_i ys l hu
      simp only [atT, Option.some.injEq, Prod.mk.injEq] at hq
      obtain ⟨rfl, rfl, rfl⟩ := hq
      obtain ⟨y, hy⟩ := Option.isSome_iff_exists.1 hp
      have hv := ev_vr hS hu
      generalize he : a.eval x = r at hv
      cases hv with
      | t _ _ _ hr =>
        cases hr with
        | tup vs _ hsz hvv =>
          have hlt : k < vs.size := by rw [hsz]; exact (List.getElem?_eq_some_iff.1 hy).1
          have hvo : vs[k]? = some vs[k] := by simp [hlt]
          refine ⟨rfl, vs[k], by simp [execOp, he, Instr.extract, hvo], ?_⟩
          rw [hy]
          exact .t _ _ _ (hvv _ _ _ hvo hy)
    · rename_i ys hu
      simp only [atA, Option.some.injEq, Prod.mk.injEq] at hq
      obtain ⟨rfl, rfl, rfl⟩ := hq
      obtain ⟨y, hy⟩ := Option.isSome_iff_exists.1 hp
      have hv := ev_vr hS hu
      generalize he : a.eval x = r at hv
      cases hv with
      | tup vs _ hsz hvv =>
        have hlt : k < vs.size := by rw [hsz]; exact (List.getElem?_eq_some_iff.1 hy).1
        have hvo : vs[k]? = some vs[k] := by simp [hlt]
        refine ⟨rfl, vs[k], by simp [execOp, he, Instr.extract, hvo], ?_⟩
        rw [hy]
        exact hvv _ _ _ hvo hy
    · cases hq
  case makeFunc fn f0 cap =>
    simp only [q] at hq
    split at hq
    · rename_i f vs hf0 hvs
      simp only [okR, Option.some.injEq, Prod.mk.injEq] at hq
      obtain ⟨rfl, rfl, rfl⟩ := hq
      obtain ⟨hl, hg⟩ := evs_vr hS hvs
      have h0 : f0 = #[] := by
        apply Array.ext'
        simpa using hf0
      subst h0
      refine ⟨rfl, .func (.func f) #[] (cap.map a.eval), by simp [execOp, Instr.makeFunc], .fn f (cap.map a.eval) vs (by simpa using hl) fun j v x hv hx => hg j v x ?_ hx⟩
      rw [← Array.toList_map]
      simpa using hv
    · cases hq
  case call cl =>
    obtain ⟨callee, args, tys⟩ := cl
    cases callee <;> simp only [Bool.false_eq_true] at ho
    case builtin b =>
      simp only [q] at hq
      split at hq <;> try cases hq
      rename_i vs hvs
      cases b <;> simp only [Bool.false_eq_true] at ho
      case len =>
        simp only [qBuiltin] at hq
        split at hq <;> try cases hq
        rename_i t v' hty
        obtain ⟨x, hx, hv⟩ := evs_one hS hvs
        obtain ⟨hu, rv, hr, hv'⟩ := qLen_sound (P := P) hP hv ty hq hp
        refine ⟨hu, rv, ?_, hv'⟩
        have e1 : args = #[x] := by apply Array.ext'; simpa using hx
        have e2 : tys = #[t] := by apply Array.ext'; simpa using hty
        subst e1; subst e2
        simp [execOp, resolve, invoke, builtin, hr]
      case cap =>
        simp only [qBuiltin] at hq
        split at hq <;> try cases hq
        all_goals
          rename_i t hty
          split at hq <;> try cases hq
          rename_i hi
          obtain ⟨x, hx, hv⟩ := evs_one hS hvs
          have e1 : args = #[x] := by apply Array.ext'; simpa using hx
          have e2 : tys = #[t] := by apply Array.ext'; simpa using hty
          subst e1; subst e2
          generalize he : a.eval x = r at hv
          obtain ⟨et, hut, hT⟩ := elemOfS_some hP hi
          cases hv
          exact ⟨rfl, .int .i64 0, by simp [execOp, resolve, invoke, builtin, Builtin.cap_, run_underlying hut, goInt, he], .t _ _ _ (.i _ _)⟩
      case min =>
        simp only [qBuiltin] at hq
        split at hq <;> try cases hq
        obtain ⟨x, y, hx, hv, hv2⟩ := evs_two hS hvs
        have e1 : args = #[x, y] := by apply Array.ext'; simpa using hx
        subst e1
        generalize he : a.eval x = r at hv
        generalize he2 : a.eval y = r2 at hv2
        cases hv with
        | t _ _ _ hr =>
          cases hr
          cases hv2 with
          | t _ _ _ hr =>
            cases hr
            exact ⟨rfl, _, by simp [execOp, resolve, invoke, builtin, run_min_int2, he, he2], .t _ _ _ (.i _ _)⟩
      case max =>
        simp only [qBuiltin] at hq
        split at hq <;> try cases hq
        obtain ⟨x, y, hx, hv, hv2⟩ := evs_two hS hvs
        have e1 : args = #[x, y] := by apply Array.ext'; simpa using hx
        subst e1
        generalize he : a.eval x = r at hv
        generalize he2 : a.eval y = r2 at hv2
        cases hv with
        | t _ _ _ hr =>
          cases hr
          cases hv2 with
          | t _ _ _ hr =>
            cases hr
            exact ⟨rfl, _, by simp [execOp, resolve, invoke, builtin, run_max_int2, he, he2], .t _ _ _ (.i _ _)⟩
end
end Go.Proofs.Ytadnjellfiafaaa.Pm
