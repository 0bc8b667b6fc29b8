/- The abstract machine, eighteenth part: a call of a function of the program. No law of Go's is stated here. -/
import Derived.Test.YtadnjellfiafaaaPmQ
set_option linter.all false
namespace Go.Proofs.Ytadnjellfiafaaa.Pm
open Go Go.RowKit

def ok1 : AV → Bool
  | .t .. | .nl | .e0 | .row .. => true
  | _ => false
def ok2 : AV → Bool
  | .agg cs => cs.all ok1
  | v => ok1 v
def ok3 : AV → Bool
  | .tup us => us.all ok2
  | v => ok2 v

/-- A function's contract: of arguments that read as these trees it makes that result, in new rows; it writes nothing that was there. -/
structure Spec (P : Program) (f : Nat) (ts : List T) (bs : List Blk) (r : AV) : Prop where
  form : ok3 r = true
  rows : ∀ b ∈ bs, ∃ z es l, b = .row 0 z es l
  body : ∃ fn c, P.funcs[f]? = some fn ∧ fn.body = some c ∧ fn.name ≠ "runtime.NumGoroutine"
  run : ∀ (w : World) (B : Nat → Prop) (args : Array Value), (∀ b, B b → b < w.heap.size) → args.size = ts.length → (∀ (j : Nat) (v : Value) (x : T), args[j]? = some v → ts[j]? = some x → Rep w B v x) →
    Calls P f args w fun
      | .returned v, w' => ∃ m, Mem ⟨P, w, B, 0, w.heap.size, Nat.le_refl _⟩ m (lk bs) w' ∧ VR m w.heap.size (lk bs) w' v r
      | _, _ => False

section
variable {P : Program} {w w' : World} {c : Ct} {m m' m1 : Mp} {h h' h1 : H} {ti : Nat → Option TI} {tm : Tm} {a : Act}

/-- What an argument leads to. -/
def lead (m : Mp) (w : World) (l : Bool) : Nat → Prop := fun b => b < w.heap.size ∧ (l = false → m.st b)

theorem cell_lt {ad : Addr} {v : Value} (hc : w.cell? ad = some v) : ad.block < w.heap.size := by
  rcases Nat.lt_or_ge ad.block w.heap.size with h | h
  · exact h
  · simp [World.cell?, Array.getElem?_eq_none h] at hc

theorem rep_st (hM : Mem c m h w) {l l' : Bool} {v : Value} {x : T} (hr : Rep w (m.ok c.B l) v x) : Rep w (lead m w l') v x :=
  hr.mono (fun b hb => ⟨hM.stlt b hb.1, fun _ => hb.1⟩) (fun _ _ => rfl)

theorem arg1_rep (hM : Mem c m h w) {v : AV} {y : T} (ha : arg1 h v y) {rv : Value} (hv : VR m c.B h w rv v) : Rep w (lead m w v.loose) rv y := by
  cases v <;> simp only [arg1] at ha
  case t x l => subst ha; cases hv with | t _ _ _ hr => exact rep_st hM hr
  case nl =>
    cases hv
    rcases ha with rfl | rfl
    · exact Rep.nilslice _
    · exact .nl
  case e0 => subst ha; cases hv; exact Rep.nilslice _
  case row id ver off len =>
    obtain ⟨p, hp, rfl⟩ := ha
    simp only [elems] at hp
    split at hp <;> try cases hp
    rename_i z es l hr
    split at hp <;> simp only [Option.some.injEq, reduceCtorEq] at hp
    rename_i hl
    subst hp
    refine (row_rep hM hv hr hl).mono (fun b hb => ⟨?_, fun e => by simp [AV.loose] at e⟩) (fun _ _ => rfl)
    rcases hb.1 with h1 | ⟨h1, rfl⟩
    · exact hM.stlt b h1
    · have hid := rowOf_some hr
      exact (hM.place_lt (id := id) (g := (m.ψ id).1) (by simp [place, hid, placeB, h1])).1
  case vs id off len z =>
    obtain ⟨p, hp, h0, hz, rfl⟩ := ha
    obtain ⟨A, k, rfl, hr1, news, hnl, hnews, hnr⟩ := elems_cells hM hp hv z hz h0
    have hle : p.1.length ≤ k := by
      generalize p.1.length = q at hv
      cases hv with
      | vs _ _ _ _ _ _ _ hc _ => exact hc
    refine .sl A p.1.length k p.1 z (fun i j => (news[i * z + j]?).getD undef) rfl hle hr1 (fun e => by
      generalize p.1.length = q at hv
      cases hv with
      | vs _ _ _ _ _ _ _ hc hA =>
        rcases Nat.eq_zero_or_pos k with h | h
        · exact h
        · rw [hA h] at e; cases e) (fun i e he => hz e (List.mem_of_getElem? he)) (fun hpos => ?_) fun i j e x he hx => ?_
    · obtain ⟨ad, rfl, hcell⟩ := hnews hpos
      have hall : ∀ i j, i < p.1.length → j < z → w.cell? (ad.add (i * z + j)) = some ((news[i * z + j]?).getD undef) := fun i j hi hj => by
        have hlt : i * z + j < news.length := by
          rw [hnl]
          have : (i + 1) * z ≤ p.1.length * z := Nat.mul_le_mul_right _ hi
          rw [Nat.add_mul] at this
          omega
        rw [List.getElem?_eq_getElem hlt, Option.getD_some]
        exact hcell _ _ (List.getElem?_eq_getElem hlt)
      refine ⟨ad, rfl, ⟨?_, fun e => by simp [AV.loose] at e⟩, hall⟩
      have := cell_lt (hall 0 0 hpos h0)
      rwa [block_add] at this
    · obtain ⟨v, hv1, hv2⟩ := hnr i j e x he hx
      simp only [hv1, Option.getD_some]
      exact rep_st hM hv2
  case ptr id off =>
    obtain ⟨cs, p, hcs, hp, rfl⟩ := ha
    have hid : h id = some (.var cs) := by
      unfold varOf at hcs
      split at hcs <;> simp only [Option.some.injEq, reduceCtorEq] at hcs
      rename_i hh
      rw [hh, hcs]
    obtain ⟨b1, b2, rcs, tt, b3, b4, b5⟩ := hM.blk _ _ hid
    obtain ⟨pl, pg⟩ := plains_get hp
    cases hv
    have hlen : p.1.length = cs.length - off := by rw [← pl]; simp
    refine .pt _ p.1 (fun j => (rcs[off + j]?).getD undef) ⟨?_, fun e => by simp [AV.loose] at e⟩ (fun j hj => ?_) fun j x hx => ?_
    · exact (hM.place_lt (id := id) (g := m.φ id) (by simp [place, hid, placeB])).1
    · have hlt : off + j < rcs.size := by omega
      rw [add_lit, cell_lit b3]
      simp [hlt]
    · have hj := (List.getElem?_eq_some_iff.1 hx).1
      obtain ⟨u, hu⟩ := list_get (l := cs.drop off) (j := j) (by simp; omega)
      obtain ⟨q, hq, hq1, _⟩ := pg _ _ hu
      rw [hx] at hq1
      simp only [Option.some.injEq] at hq1
      have hlt : off + j < rcs.size := by omega
      have hrv : rcs[off + j]? = some rcs[off + j] := by simp [hlt]
      rw [List.getElem?_drop] at hu
      simp only [hrv, Option.getD_some]
      have := vr_rep hq (b5 _ _ _ hrv hu)
      rw [← hq1] at this
      exact rep_st hM this

theorem lead_mono {l l' : Bool} (hl : l' = false → l = false) {v : Value} {x : T} (hr : Rep w (lead m w l) v x) : Rep w (lead m w l') v x :=
  hr.mono (fun b hb => ⟨hb.1, fun e => hb.2 (hl e)⟩) (fun _ _ => rfl)

theorem argCs_get : ∀ {cs : List AV} {p : List T}, argCs h cs p → cs.length = p.length ∧ ∀ (j : Nat) (v : AV) (y : T), cs[j]? = some v → p[j]? = some y → arg1 h v y
  | [], p, ha => by simp [argCs] at ha; subst ha; simp
  | v :: vs, p, ha => by
    obtain ⟨y, ys, rfl, h1, h2⟩ := ha
    obtain ⟨hl, hg⟩ := argCs_get h2
    refine ⟨by simp [hl], fun j u z hu hz => ?_⟩
    cases j with
    | zero => simp at hu hz; subst hu; subst hz; exact h1
    | succ j => exact hg j u z (by simpa using hu) (by simpa using hz)
theorem argsOK_get : ∀ {cs : List AV} {p : List T}, argsOK h cs p → cs.length = p.length ∧ ∀ (j : Nat) (v : AV) (y : T), cs[j]? = some v → p[j]? = some y → argOK h v y
  | [], p, ha => by simp [argsOK] at ha; subst ha; simp
  | v :: vs, p, ha => by
    obtain ⟨y, ys, rfl, h1, h2⟩ := ha
    obtain ⟨hl, hg⟩ := argsOK_get h2
    refine ⟨by simp [hl], fun j u z hu hz => ?_⟩
    cases j with
    | zero => simp at hu hz; subst hu; subst hz; exact h1
    | succ j => exact hg j u z (by simpa using hu) (by simpa using hz)

theorem arg_rep (hM : Mem c m h w) {v : AV} {y : T} (ha : argOK h v y) {rv : Value} (hv : VR m c.B h w rv v) : Rep w (lead m w v.loose) rv y := by
  cases v <;> simp only [argOK] at ha <;> try exact arg1_rep hM ha hv
  case fn f cap =>
    obtain ⟨p, rfl, hp⟩ := ha
    obtain ⟨pl, pg⟩ := argCs_get hp
    cases hv with
    | fn _ vs _ hs hvv =>
      refine .fn f vs p (by omega) fun j v x hv hx => ?_
      have hj := (List.getElem?_eq_some_iff.1 hx).1
      obtain ⟨u, hu⟩ := list_get (l := cap) (j := j) (by omega)
      refine lead_mono (fun e => ?_) (arg1_rep hM (pg j u x hu hx) (hvv j v u hv hu))
      simp [AV.loose] at e
      subst e
      simp at hu
  case agg cs =>
    obtain ⟨p, rfl, hp⟩ := ha
    obtain ⟨pl, pg⟩ := argCs_get hp
    cases hv with
    | agg vs _ hs hvv =>
      refine .agg vs p (by omega) fun j v x hv hx => ?_
      have hj := (List.getElem?_eq_some_iff.1 hx).1
      obtain ⟨u, hu⟩ := list_get (l := cs) (j := j) (by omega)
      refine lead_mono (fun e => ?_) (arg1_rep hM (pg j u x hu hx) (hvv j v u hv hu))
      simp only [AV.loose, List.any_eq_false] at e
      have h1 := e u (List.mem_of_getElem? hu)
      have h2 := pg j u x hu hx
      cases u <;> first | rfl | exact h2.elim | exact (h1 rfl).elim

theorem uH_number : ∀ (bs : List Blk) (h : H) (n : Nat), uH h (number n bs) = fun i => if n ≤ i ∧ i < n + bs.length then bs[i - n]? else h i
  | [], h, n => by funext i; simp [number, uH]; omega
  | b :: bs, h, n => by
    rw [number, uH_cons, uH_number bs _ (n + 1)]
    funext i
    by_cases h1 : i = n
    · subst h1; rw [if_neg (by omega)]; simp [setH]
    · by_cases h2 : n < i ∧ i < n + 1 + bs.length
      · rw [if_pos (by omega), if_pos (by simp; omega), show i - n = (i - (n + 1)) + 1 by omega]
        simp
      · rw [if_neg (by omega), if_neg (by simp; omega)]
        simp [setH, h1]

/-- Behind a call: the caller's own blocks, and those that the callee made. -/
def mrg (m m1 : Mp) (n k N : Nat) : Mp := ⟨fun i => if n ≤ i ∧ i < n + k then m1.φ (i - n) else m.φ i, fun i => if n ≤ i ∧ i < n + k then m1.ψ (i - n) else m.ψ i, fun b => m.st b ∨ (m1.st b ∧ N ≤ b)⟩

theorem called_sound (hM : Mem c m h w) {n : Nat} {g : Nat} {as : List AV} {ts : List T} {bs : List Blk} {r : AV} (hn : ∀ i, n ≤ i → i < n + bs.length → h i = none) (ha : argsOK h as ts) (hsp : Spec c.P g ts bs r)
    (hl : as.any AV.loose = true → r.fresh = true ∧ bs.all Blk.fresh = true) {args : Array Value} (hsz : args.size = as.length) (hargs : ∀ (j : Nat) (v : Value) (x : AV), args[j]? = some v → as[j]? = some x → VR m c.B h w v x) :
    Calls c.P g args w fun
      | .returned v, w' => ∃ m', Ext m h w m' (uH h (number n bs)) w' ∧ Mem c m' (uH h (number n bs)) w' ∧ VR m' c.B (uH h (number n bs)) w' v (r.sh n)
      | _, _ => False := by
  obtain ⟨al, ag⟩ := argsOK_get ha
  have hcall := hsp.run w (lead m w (as.any AV.loose)) args (fun b hb => hb.1) (by omega) (fun j v x hv hx => by
    have hj := (List.getElem?_eq_some_iff.1 hx).1
    obtain ⟨u, hu⟩ := list_get (l := as) (j := j) (by omega)
    refine lead_mono (fun e => ?_) (arg_rep hM (ag j u x hu hx) (hargs j v u hv hu))
    rw [List.any_eq_false] at e
    simpa using e u (List.mem_of_getElem? hu))
  refine hcall.mono fun e w' he => ?_
  cases e with
  | panicked _ => exact he
  | outgrown => exact he
  | returned v =>
    obtain ⟨m1, M1, hv⟩ := he
    have hB := M1.below
    simp only at hB
    have hsize : c.B ≤ w.heap.size := hM.bsize
    have hh' := uH_number bs h n
    have hold' : ∀ i b, h i = some b → ¬ (n ≤ i ∧ i < n + bs.length) := fun i b hi hc => by
      rw [hn i hc.1 hc.2] at hi; cases hi
    have hlow : ∀ i, ¬ (n ≤ i ∧ i < n + bs.length) → uH h (number n bs) i = h i := fun i hi => by rw [hh']; simp only; rw [if_neg hi]
    have hold : ∀ i b, h i = some b → uH h (number n bs) i = some b := fun i b hi => by
      rw [hlow i (hold' i b hi)]; exact hi
    have hnew : ∀ k, k < bs.length → uH h (number n bs) (k + n) = lk bs k := fun k hk => by
      rw [hh']
      simp only
      rw [if_pos (by omega)]; simp [lk]
    have hψ : ∀ k, k < bs.length → (mrg m m1 n bs.length w.heap.size).ψ (k + n) = m1.ψ k := fun k hk => by simp only [mrg, if_pos (show n ≤ k + n ∧ k + n < n + bs.length by omega), Nat.add_sub_cancel]
    have hψ0 : ∀ k, ¬ (n ≤ k ∧ k < n + bs.length) → (mrg m m1 n bs.length w.heap.size).ψ k = m.ψ k := fun k hk => by simp only [mrg, if_neg hk]
    have hφ0 : ∀ k, ¬ (n ≤ k ∧ k < n + bs.length) → (mrg m m1 n bs.length w.heap.size).φ k = m.φ k := fun k hk => by simp only [mrg, if_neg hk]
    have hok : ∀ (l : Bool) (b : Nat), (as.any AV.loose = true → l = true) → m1.ok w.heap.size l b → (mrg m m1 n bs.length w.heap.size).ok c.B l b := fun l b hlo hb => by
      rcases Nat.lt_or_ge b w.heap.size with hlt | hge
      · have hst := (M1.stin b hb.1).resolve_right (by simp only; omega)
        have hlf : l = false := by
          cases l
          · rfl
          · have := hb.2 rfl; omega
        have hany : as.any AV.loose = false := by
          cases hany : as.any AV.loose
          · rfl
          · have := hlo hany; rw [hlf] at this; cases this
        exact ⟨.inl (hst.2 hany), fun e => by rw [hlf] at e; cases e⟩
      · exact ⟨.inr ⟨hb.1, hge⟩, fun _ => Nat.le_trans hsize hge⟩
    have hext : Ext m h w (mrg m m1 n bs.length w.heap.size) (uH h (number n bs)) w' := by
      refine ⟨fun id hid => ?_, fun id hid => ?_, fun id v' z es l hid hh => ?_, fun id ver z es l hid hver hh => ?_, fun b hb => .inl hb, fun b hb => hB.block b (hM.stlt b hb)⟩ <;> obtain ⟨b, hb⟩ := Option.isSome_iff_exists.1 hid <;> have hlt := hold' _ _ hb
      · rw [hold _ _ hb]; rfl
      · exact hφ0 _ hlt
      · rw [hlow _ hlt] at hh
        exact ⟨v', z, es, l, hh, Nat.le_refl _⟩
      · have : rowOf h id ver = some (z, es, l) := by simpa only [rowOf, hlow _ hlt] using hh
        exact ⟨⟨es, l, this⟩, hψ0 _ hlt⟩
    have hpl0 : ∀ i, ¬ (n ≤ i ∧ i < n + bs.length) → place (mrg m m1 n bs.length w.heap.size) (uH h (number n bs)) i = place m h i := fun i hi => by
      unfold place
      rw [hlow i hi]
      cases h i with
      | none => rfl
      | some b => cases b <;> simp [placeB, hψ0 i hi, hφ0 i hi]
    have hpl1 : ∀ k, k < bs.length → place (mrg m m1 n bs.length w.heap.size) (uH h (number n bs)) (k + n) = place m1 (lk bs) k := fun k hk => by
      unfold place
      rw [hnew k hk]
      cases hk' : lk bs k with
      | none => rfl
      | some b =>
        obtain ⟨z, es, l, rfl⟩ := hsp.rows b (List.mem_of_getElem? hk')
        simp only [placeB, hψ k hk]
    refine ⟨mrg m m1 n bs.length w.heap.size, hext, ⟨hM.below.trans (hB.mono hsize), hext.kept hM.kept, fun i b hi => ?_, fun i j g hi hj => ?_, fun b hb => ?_, fun b hb => ?_⟩, ?_⟩
    · by_cases hin : n ≤ i ∧ i < n + bs.length
      · obtain ⟨k, hk, rfl⟩ : ∃ k, k < bs.length ∧ i = k + n := ⟨i - n, by omega, by omega⟩
        rw [hnew k hk] at hi
        obtain ⟨z, es, l, rfl⟩ := hsp.rows b (List.mem_of_getElem? hi)
        obtain ⟨b1, b2, b3, b4⟩ := M1.blk _ _ hi
        have hlo : as.any AV.loose = true → l = true := fun e => by
          have := (hl e).2
          rw [List.all_eq_true] at this
          exact this _ (List.mem_of_getElem? hi)
        refine ⟨by rw [hψ k hk]; exact b1, b2, b3, fun hpos => ?_⟩
        rw [hψ k hk] at hpos ⊢
        obtain ⟨g1, g2, rcs, tt, g3, g4, g5⟩ := b4 hpos
        simp only at g1
        refine ⟨Nat.le_trans hsize g1, fun hs => ?_, rcs, tt, g3, g4, fun q j e x he hx => ?_⟩
        · rcases hs with hs | hs
          · have := hM.stlt _ hs; omega
          · exact g2 hs.1
        · obtain ⟨v, hv1, hv2⟩ := g5 q j e x he hx
          exact ⟨v, hv1, hv2.mono (fun b hb => hok l b hlo hb) (fun _ _ => rfl)⟩
      · rw [hlow i hin] at hi
        refine (hM.blk i b hi).keep hext (hφ0 i hin) (hψ0 i hin) fun g hg => ?_
        obtain ⟨p1, p2, p3⟩ := hM.place_lt (id := i) (g := g) (by simp [place, hi, hg])
        refine ⟨fun hs => ?_, hB.block g p1⟩
        rcases hs with hs | hs
        · exact p3 hs
        · have h2 := hs.2; omega
    · by_cases hin : n ≤ i ∧ i < n + bs.length <;> by_cases hjn : n ≤ j ∧ j < n + bs.length
      · obtain ⟨k, hk, rfl⟩ : ∃ k, k < bs.length ∧ i = k + n := ⟨i - n, by omega, by omega⟩
        obtain ⟨k', hk', rfl⟩ : ∃ k, k < bs.length ∧ j = k + n := ⟨j - n, by omega, by omega⟩
        rw [hpl1 k hk] at hi; rw [hpl1 k' hk'] at hj
        rw [M1.sep k k' g hi hj]
      · obtain ⟨k, hk, rfl⟩ : ∃ k, k < bs.length ∧ i = k + n := ⟨i - n, by omega, by omega⟩
        rw [hpl0 j hjn] at hj; rw [hpl1 k hk] at hi
        have h1 := (hM.place_lt hj).1
        have h2 := (M1.place_lt hi).2.1
        simp only at h2
        omega
      · obtain ⟨k, hk, rfl⟩ : ∃ k, k < bs.length ∧ j = k + n := ⟨j - n, by omega, by omega⟩
        rw [hpl0 i hin] at hi; rw [hpl1 k hk] at hj
        have h1 := (hM.place_lt hi).1
        have h2 := (M1.place_lt hj).2.1
        simp only at h2
        omega
      · rw [hpl0 i hin] at hi; rw [hpl0 j hjn] at hj; exact hM.sep i j g hi hj
    · rcases hb with hb | hb
      · exact Nat.lt_of_lt_of_le (hM.stlt b hb) hB.size
      · exact M1.stlt b hb.1
    · rcases hb with hb | hb
      · exact hM.stin b hb
      · exact .inr (Nat.le_trans hsize hb.2)
    · -- the result
      have one : ∀ (v : Value) (x : AV), ok1 x = true → (as.any AV.loose = true → (match x with | .t _ l => l | _ => true) = true) → VR m1 w.heap.size (lk bs) w' v x → VR (mrg m m1 n bs.length w.heap.size) c.B (uH h (number n bs)) w' v (x.sh1 n) := by
        intro v x hx hf hv
        cases hv <;> simp only [ok1, Bool.false_eq_true] at hx
        case t y l hr => exact .t _ _ _ (hr.mono (fun b hb => hok l b hf hb) (fun _ _ => rfl))
        case nl => exact .nl
        case e0 A => exact .e0 A
        case row id ver off len k A hid hver hc hr =>
          have hk : id < bs.length := by
            obtain ⟨b, hb⟩ := Option.isSome_iff_exists.1 hid
            exact (List.getElem?_eq_some_iff.1 hb).1
          refine .row (id + n) ver off len k A (by rw [hnew id hk]; exact hid) (fun v' z es l hh => hver v' z es l (by rw [← hnew id hk]; exact hh)) hc fun z es l hrow => ?_
          rw [hψ id hk]
          exact hr z es l (by simpa only [rowOf, hnew id hk] using hrow)
      have two : ∀ (v : Value) (x : AV), ok2 x = true → (as.any AV.loose = true → (match x with | .t _ l => l | .agg cs => cs.all (fun | .t _ l => l | _ => true) | _ => true) = true) → VR m1 w.heap.size (lk bs) w' v x → VR (mrg m m1 n bs.length w.heap.size) c.B (uH h (number n bs)) w' v (x.sh2 n) := by
        intro v x hx hf hv
        cases x
        case agg cs =>
          simp only [ok2, List.all_eq_true] at hx
          cases hv with
          | agg vs _ hs hvv =>
            refine .agg vs _ (by simpa using hs) fun j u y hu hy => ?_
            rw [List.getElem?_map] at hy
            simp only [Option.map_eq_some_iff] at hy
            obtain ⟨y0, hy0, rfl⟩ := hy
            refine one u y0 (hx y0 (List.mem_of_getElem? hy0)) (fun e => ?_) (hvv j u y0 hu hy0)
            have := hf e
            simp only [List.all_eq_true] at this
            exact this y0 (List.mem_of_getElem? hy0)
        all_goals (simp only [ok2] at hx; exact one v _ hx hf hv)
      have hf0 := fun e => (hl e).1
      have hform := hsp.form
      cases r
      case tup us =>
        simp only [ok3, List.all_eq_true] at hform
        cases hv with
        | tup vs _ hs hvv =>
          refine .tup vs _ (by simpa using hs) fun j u y hu hy => ?_
          rw [List.getElem?_map] at hy
          simp only [Option.map_eq_some_iff] at hy
          obtain ⟨y0, hy0, rfl⟩ := hy
          refine two u y0 (hform y0 (List.mem_of_getElem? hy0)) (fun e => ?_) (hvv j u y0 hu hy0)
          have := hf0 e
          simp only [AV.fresh, List.all_eq_true] at this
          exact this y0 (List.mem_of_getElem? hy0)
      all_goals (simp only [ok3] at hform; exact two v _ hform (fun e => hf0 e) hv)
end

/-! ### A row that is handed over to be appended to -/
/-- A slice's cells, each element one number. -/
def RowAt (w : World) (g cap : Nat) (xs : List (List T)) : Prop :=
  ∃ rcs t, w.heap[g]? = some (.cells rcs t (0, 0)) ∧ cap ≤ rcs.size ∧ ∀ (q : Nat) (e : List T) (x : T), xs[q]? = some e → e[0]? = some x → ∃ v, rcs[q]? = some v ∧ Rep w (fun _ => False) v x
/-- The contract of a function that appends to its first argument: these elements behind those that were there; of what was there it writes the one block alone. -/
structure SpecAp (P : Program) (f : Nat) (xs : List (List T)) (ts : List T) (ys : List (List T)) : Prop where
  flat : ∀ e ∈ xs ++ ys, ∃ k n, e = [T.i k n]
  body : ∃ fn c, P.funcs[f]? = some fn ∧ fn.body = some c ∧ fn.name ≠ "runtime.NumGoroutine"
  fits : xs.length + ys.length ≤ room
  run : ∀ (w : World) (B : Nat → Prop) (A : Option Addr) (g cap : Nat) (args : Array Value), (∀ b, B b → b < w.heap.size ∧ (0 < cap → b ≠ g)) → (0 < cap → A = some ⟨g, 0, none⟩ ∧ RowAt w g cap xs) → xs.length ≤ cap →
    args.size = ts.length + 1 → args[0]? = some (.slice A xs.length cap) → (∀ (j : Nat) (v : Value) (x : T), args[j + 1]? = some v → ts[j]? = some x → Rep w B v x) →
    Calls P f args w fun
      | .returned v, w' => ∃ A' g' cap', v = .slice A' (xs.length + ys.length) cap' ∧ xs.length + ys.length ≤ cap' ∧ (0 < cap' → A' = some ⟨g', 0, none⟩ ∧ RowAt w' g' cap' (xs ++ ys) ∧ ((0 < cap ∧ g' = g) ∨ w.heap.size ≤ g')) ∧ w.grownBy w' (if 0 < cap then some g else none)
      | _, _ => False

section
variable {P : Program} {w w' : World} {c : Ct} {m m' m1 : Mp} {h h' h1 : H} {ti : Nat → Option TI} {tm : Tm} {a : Act}

theorem Rep.no {B : Nat → Prop} {v : Value} {x : T} (hr : Rep w (fun _ => False) v x) : Rep w' B v x := hr.mono (fun _ h => h.elim) (fun _ h => h.elim)
theorem rep_flat {B : Nat → Prop} {v : Value} {k : IntKind} {n : Int} (hr : Rep w B v (.i k n)) : Rep w' (fun _ => False) v (.i k n) := by cases hr; exact .i _ _

/-- What an easy argument leads to. -/
theorem easy_rep (hM : Mem c m h w) {id ver z : Nat} {es : List (List T)} {l : Bool} (hid : h id = some (.row ver z es l)) {v : AV} (hv : v.easy id = true) {y : T} (ha : argOK h v y) {rv : Value} (hr : VR m c.B h w rv v) :
    Rep w (fun b => b < w.heap.size ∧ (0 < (m.ψ id).2 → b ≠ (m.ψ id).1)) rv y := by
  have hst : ∀ b, m.st b → b < w.heap.size ∧ (0 < (m.ψ id).2 → b ≠ (m.ψ id).1) := fun b hb => ⟨hM.stlt b hb, fun h0 e => by
    subst e
    exact (hM.place_lt (id := id) (g := (m.ψ id).1) (by simp [place, hid, placeB, h0])).2.2 hb⟩
  cases v <;> simp only [AV.easy, Bool.false_eq_true, decide_eq_true_eq] at hv
  case t x l => simp only [argOK, arg1] at ha; subst ha; cases hr with | t _ _ _ hr => exact hr.mono (fun b hb => hst b hb.1) (fun _ _ => rfl)
  case nl => simp only [argOK, arg1] at ha; cases hr; rcases ha with rfl | rfl; (exact Rep.nilslice _); exact .nl
  case e0 => simp only [argOK, arg1] at ha; subst ha; cases hr; exact Rep.nilslice _
  case row id' ver' off len =>
    simp only [argOK, arg1] at ha
    obtain ⟨p, hp, rfl⟩ := ha
    simp only [elems] at hp
    split at hp <;> try cases hp
    rename_i hr'
    split at hp <;> simp only [Option.some.injEq, reduceCtorEq] at hp
    rename_i hl
    subst hp
    have hid' := rowOf_some hr'
    refine (row_rep hM hr hr' hl).mono (fun b hb => ?_) (fun _ _ => rfl)
    rcases hb.1 with h1 | ⟨h1, rfl⟩
    · exact hst b h1
    · have hp' : place m h id' = some (m.ψ id').1 := by simp [place, hid', placeB, h1]
      exact ⟨(hM.place_lt hp').1, fun h0 e => hv (hM.sep id' id _ hp' (by simp [place, hid, placeB, h0, e]))⟩

theorem over_sound (hM : Mem c m h w) {id ver len g : Nat} {es : List (List T)} {l : Bool} {as' : List AV} {ts : List T} {ys : List (List T)} (hrow : rowOf h id ver = some (1, es, l)) (hlen : len ≤ es.length) (hne : as'.all (AV.easy id) = true) (ha : argsOK h as' ts)
    (hs : SpecAp c.P g (es.take len) ts ys) {args : Array Value} (hsz : args.size = as'.length + 1) (hargs : ∀ (j : Nat) (v : Value) (x : AV), args[j]? = some v → (AV.row id ver 0 len :: as')[j]? = some x → VR m c.B h w v x) :
    Calls c.P g args w fun
      | .returned v, w' => ∃ m', Ext m h w m' (uH h [(id, .row (ver + 1) 1 (es.take len ++ ys) l)]) w' ∧ Mem c m' (uH h [(id, .row (ver + 1) 1 (es.take len ++ ys) l)]) w' ∧ VR m' c.B (uH h [(id, .row (ver + 1) 1 (es.take len ++ ys) l)]) w' v (.row id (ver + 1) 0 (len + ys.length))
      | _, _ => False := by
  have hid := rowOf_some hrow
  obtain ⟨b1, b2, b3, b4⟩ := hM.blk _ _ hid
  obtain ⟨al, ag⟩ := argsOK_get ha
  have htl : (es.take len).length = len := by simp; omega
  obtain ⟨rv, hrv⟩ : ∃ rv, args[0]? = some rv := ⟨args[0]'(by omega), by simp [show 0 < args.size by omega]⟩
  have h0 := hargs 0 rv _ hrv rfl
  cases h0 with
  | row _ _ _ _ cap A hid' hver hcap hvr =>
    obtain ⟨v1, v2⟩ := hvr _ _ _ hrow
    have hpsi : 0 < cap → 0 < (m.ψ id).2 := fun h => by omega
    have hrowAt : 0 < cap → A = some ⟨(m.ψ id).1, 0, none⟩ ∧ RowAt w (m.ψ id).1 cap (es.take len) := fun hc => by
      obtain ⟨g1, g2, rcs, tt, g3, g4, g5⟩ := b4 (hpsi hc)
      refine ⟨by rw [v2 hc, Nat.zero_mul]; rfl, rcs, tt, g3, by omega, fun q e x he hx => ?_⟩
      obtain ⟨k, n, rfl⟩ := hs.flat e (List.mem_append_left _ (List.mem_of_getElem? he))
      have hq : q < len := by have := (List.getElem?_eq_some_iff.1 he).1; omega
      rw [List.getElem?_take_of_lt hq] at he
      obtain ⟨v, hv1, hv2⟩ := g5 q 0 _ x he hx
      rw [Nat.mul_one, Nat.add_zero] at hv1
      simp only [List.getElem?_cons_zero, Option.some.injEq] at hx
      subst hx
      exact ⟨v, hv1, rep_flat hv2⟩
    have hcall := hs.run w (fun b => b < w.heap.size ∧ (0 < (m.ψ id).2 → b ≠ (m.ψ id).1)) A (m.ψ id).1 cap args (fun b hb => ⟨hb.1, fun hc => hb.2 (hpsi hc)⟩) hrowAt (by omega) (by omega) (by rw [hrv, htl]) (fun j v x hv hx => by
      have hj := (List.getElem?_eq_some_iff.1 hx).1
      obtain ⟨u, hu⟩ := list_get (l := as') (j := j) (by omega)
      exact easy_rep hM hid (List.all_eq_true.1 hne u (List.mem_of_getElem? hu)) (ag j u x hu hx) (hargs (j + 1) v u hv (by simpa using hu)))
    refine hcall.mono fun e w' he => ?_
    cases e with
    | panicked _ => exact he
    | outgrown => exact he
    | returned v =>
      obtain ⟨A', g', cap', rfl, hc', hA', hg⟩ := he
      rw [htl] at hc'
      have hg' : w.grownBy w' (if 0 < (m.ψ id).2 then some (m.ψ id).1 else none) := ⟨hg.os, hg.tape, hg.output, hg.size, fun k hk hne => by
        by_cases hc : 0 < cap
        · exact hg.block k hk (by rw [if_pos hc]; rw [if_pos (hpsi hc)] at hne; exact hne)
        · exact hg.block k hk (by rw [if_neg hc]; exact fun e => by cases e)⟩
      have hflat : ∀ e ∈ es.take len ++ ys, e.length = 1 := fun e he => by
        obtain ⟨k, n, rfl⟩ := hs.flat e he
        rfl
      have G := hM.regrow hid hg' (g', cap') (es.take len ++ ys) l (fun h => by
          obtain ⟨_, _, h3⟩ := hA' h
          rcases h3 with ⟨h4, rfl⟩ | h4
          · exact .inl ⟨rfl, hpsi h4⟩
          · exact .inr h4) (fun he hst hB => by
        refine ⟨by simp [setF, htl]; omega, by simpa using hs.fits, fun q e he' => hflat e (List.mem_of_getElem? he'), fun hψ => ?_⟩
        simp only [setF, if_true] at hψ ⊢
        obtain ⟨_, ⟨rcs, tt, r1, r2, r3⟩, _⟩ := hA' hψ
        refine ⟨hB hψ, fun hs' => hst ⟨hs', hψ⟩, rcs, tt, r1, by simpa using r2, fun q j e x he' hx => ?_⟩
        have hj : j = 0 := by
          have h1 := (List.getElem?_eq_some_iff.1 hx).1
          rw [hflat e (List.mem_of_getElem? he')] at h1
          omega
        subst hj
        obtain ⟨v, r4, r5⟩ := r3 q e x he' hx
        exact ⟨v, by simpa using r4, r5.no⟩)
      refine ⟨_, G.1, G.2, ?_⟩
      rw [htl]
      refine .row id (ver + 1) 0 _ cap' A' (by simp [uH]) (fun v' z es l e => by simp [uH] at e; omega) hc' fun z' es' l' hr => ?_
      simp [uH, rowOf] at hr
      obtain ⟨rfl, rfl, rfl⟩ := hr
      simp only [setF, if_true]
      exact ⟨by omega, fun h => by rw [Nat.zero_mul]; exact (hA' h).1⟩

theorem setH_setH (h : H) (n : Nat) (b b' : Blk) : setH (setH h n b) n b' = setH h n b' := by
  funext i
  by_cases e : i = n <;> simp [setH, e]

theorem easy_mono {m' : Mp} {v : AV} {rv : Value} {y : T} (he : Ext m h w m' h' w') (ha : argOK h v y) {n : Nat} (hn : h n = none) (hv : v.easy n = true) (hh : ∀ i, i ≠ n → h' i = h i) : argOK h' v y := by
  cases v <;> simp only [AV.easy, Bool.false_eq_true, decide_eq_true_eq] at hv <;> try exact ha
  case row id' ver' off len =>
    simp only [argOK, arg1, elems] at ha ⊢
    have : rowOf h' id' ver' = rowOf h id' ver' := by unfold rowOf; rw [hh id' hv]
    rw [this]
    exact ha
theorem easys_mono {m' : Mp} (he : Ext m h w m' h' w') {n : Nat} (hn : h n = none) (hh : ∀ i, i ≠ n → h' i = h i) : ∀ {as : List AV} {ts : List T}, argsOK h as ts → as.all (AV.easy n) = true → argsOK h' as ts
  | [], _, ha, _ => ha
  | v :: vs, _, ha, hv => by
    obtain ⟨y, ys, e, h1, h2⟩ := ha
    simp only [List.all_cons, Bool.and_eq_true] at hv
    exact ⟨y, ys, e, easy_mono (rv := undef) he h1 hn hv.1 hh, easys_mono he hn hh h2 hv.2⟩

theorem onto_sound (hM : Mem c m h w) {n g : Nat} (hn : h n = none) {as' : List AV} {ts : List T} {ys : List (List T)} (hne : as'.all (AV.easy n) = true) (ha : argsOK h as' ts)
    (hs : SpecAp c.P g [] ts ys) {args : Array Value} (hsz : args.size = as'.length + 1) (hargs : ∀ (j : Nat) (v : Value) (x : AV), args[j]? = some v → (AV.nl :: as')[j]? = some x → VR m c.B h w v x) :
    Calls c.P g args w fun
      | .returned v, w' => ∃ m', Ext m h w m' (uH h [(n, .row 1 1 ys true)]) w' ∧ Mem c m' (uH h [(n, .row 1 1 ys true)]) w' ∧ VR m' c.B (uH h [(n, .row 1 1 ys true)]) w' v (.row n 1 0 ys.length)
      | _, _ => False := by
  have G := hM.add hn (.row 0 1 [] true) 0 (0, 0) (fun g hg => by simp [placeB, setF] at hg) (fun he => ⟨by simp [setF], by simp, by simp, fun h0 => by simp [setF] at h0⟩)
  have hh : ∀ i, i ≠ n → setH h n (.row 0 1 [] true) i = h i := fun i hi => by simp [setH, hi]
  have hrow : rowOf (setH h n (.row 0 1 [] true)) n 0 = some (1, [], true) := by simp [rowOf, setH]
  have hcall := over_sound G.2 (len := 0) (g := g) (ys := ys) hrow (Nat.le_refl _) hne (easys_mono G.1 hn hh ha hne) hs hsz (fun j v x hv hx => by
    cases j with
    | zero =>
      simp only [List.getElem?_cons_zero, Option.some.injEq] at hx
      subst hx
      have h0 := hargs 0 v .nl hv rfl
      cases h0
      exact .row _ 0 0 0 0 none (by simp [setH]) (fun _ _ _ _ _ => Nat.zero_le _) (Nat.le_refl _) fun z es l hr => ⟨by simp, by simp⟩
    | succ j => exact (hargs (j + 1) v x hv (by simpa using hx)).mono G.1)
  refine hcall.mono fun e w' he => ?_
  cases e with
  | panicked _ => exact he
  | outgrown => exact he
  | returned v =>
    obtain ⟨m', e1, M1, hv⟩ := he
    have hu : uH (setH h n (.row 0 1 [] true)) [(n, .row (0 + 1) 1 (([] : List (List T)).take 0 ++ ys) true)] = uH h [(n, .row 1 1 ys true)] := setH_setH _ _ _ _
    rw [hu] at e1 M1 hv
    rw [Nat.zero_add, Nat.zero_add] at hv
    exact ⟨m', G.1.trans e1, M1, hv⟩
end
end Go.Proofs.Ytadnjellfiafaaa.Pm
