/- Texts of this proof in one file: PmMk, PmMs, PmMw, PmJz, PmJu. No law of Go's is stated here. -/
import Derived.Test.YtgkmhmhbepfiaaaDoorPmMc
import Derived.Test.YtgkmhmhbepfiaaaDoorPmMd
import Derived.Test.YtgkmhmhbepfiaaaDoorPmMg
import Derived.Test.YtgkmhmhbepfiaaaDoorPmJs
set_option linter.all false
namespace Go.Proofs.YtgkmhmhbepfiaaaDoor.Pm
open Go Go.RowKit
def markT (D : Nat → Prop) : T → T
  | .sl es => .inn D (.sl es)
  | x => x
def mapV (f : T → T) : AV → AV
  | .t x l => .t (f x) l
  | v => v
def mapB (f : T → T) : Blk → Blk
  | .row ver z es l => .row ver z (es.map fun e => e.map f) l
  | b => b
def mapTm (f : T → T) (tm : Tm) : Tm := fun t => (tm t).map (mapV f)
theorem gt_mapTm (f : T → T) (tm : Tm) (t : Nat) : gt (mapTm f tm) t = (gt tm t).map (mapV f) := rfl
def mapH (f : T → T) (h : H) : H := fun i => (h i).map (mapB f)
theorem lk_map (f : T → T) (hp : List Blk) : lk (hp.map (mapB f)) = mapH f (lk hp) := by
  funext i
  simp [lk, mapH]
section
variable {P : Program} {w w' : World} {c : Ct} {m m' m1 : Mp} {h h' h1 : H} {ti : Nat → Option TI} {tm : Tm} {a : Act}
theorem rep_mark {D B : Nat → Prop} {v : Value} {x : T} (hr : Rep w B v x) (hD : ∀ b, B b → D b) : Rep w B v (markT D x) := by
  cases x <;> try exact hr
  refine .inn D v _ ?_ (hr.mono (fun b hb => ⟨hb, hD b hb⟩) (fun _ _ => rfl))
  cases hr; rfl
theorem rowOf_map (f : T → T) (h : H) (id ver : Nat) : rowOf (mapH f h) id ver = (rowOf h id ver).map fun r => (r.1, r.2.1.map (fun e => e.map f), r.2.2) := by
  unfold rowOf mapH
  cases h id with
  | none => rfl
  | some b =>
    cases b <;> simp only [Option.map_some, mapB] <;> try rfl
    split <;> rfl
theorem place_map (f : T → T) (m : Mp) (h : H) (id : Nat) : place m (mapH f h) id = place m h id := by
  unfold place mapH
  cases h id with
  | none => rfl
  | some b => cases b <;> rfl
theorem Mem.recell (hM : Mem c m h w) (f : T → T) (hf : ∀ id ver z es l, h id = some (.row ver z es l) → ∀ v x, Rep w (m.ok c.B l) v x → Rep w (m.ok c.B l) v (f x)) : Ext m h w m (mapH f h) w ∧ Mem c m (mapH f h) w := by
  have he : Ext m h w m (mapH f h) w := by
    refine ⟨fun id hid => by
      obtain ⟨b, hb⟩ := Option.isSome_iff_exists.1 hid
      unfold mapH
      rw [hb]
      rfl, fun _ _ => rfl, fun id v' z es l hid hh => ?_, fun id ver z es l hid hver hh => ?_, fun _ h => h, fun _ _ => rfl⟩
    · unfold mapH at hh
      cases hb : h id with
      | none => rw [hb] at hh; cases hh
      | some b =>
        rw [hb] at hh
        cases b <;> simp only [Option.map_some, mapB, Option.some.injEq, Blk.row.injEq, reduceCtorEq] at hh
        obtain ⟨rfl, rfl, rfl, rfl⟩ := hh
        exact ⟨_, _, _, _, rfl, Nat.le_refl _⟩
    · rw [rowOf_map] at hh
      simp only [Option.map_eq_some_iff] at hh
      obtain ⟨⟨z0, es0, l0⟩, h0, h1⟩ := hh
      simp only [Prod.mk.injEq] at h1
      obtain ⟨rfl, rfl, rfl⟩ := h1
      exact ⟨⟨es0, _, h0⟩, rfl⟩
  refine ⟨he, ⟨hM.below, hM.kept, fun id b hid => ?_, fun i j g hi hj => hM.sep i j g (by rwa [place_map] at hi) (by rwa [place_map] at hj), hM.stlt, hM.stin, hM.soft⟩⟩
  unfold mapH at hid
  cases hb : h id with
  | none => rw [hb] at hid; cases hid
  | some b0 =>
    rw [hb] at hid
    simp only [Option.map_some, Option.some.injEq] at hid
    subst hid
    have h0 := hM.blk id b0 hb
    cases b0 with
    | var cs => exact h0.keep he rfl rfl fun g hg => ⟨(hM.placed hb hg).2.2, rfl⟩
    | gone => trivial
    | row ver z es l =>
      obtain ⟨b1, b2, b3, b4⟩ := h0
      refine ⟨by simpa using b1, by simpa using b2, fun i e he' => ?_, fun hpos => ?_⟩
      · rw [List.getElem?_map] at he'
        simp only [Option.map_eq_some_iff] at he'
        obtain ⟨e0, he0, rfl⟩ := he'
        simpa using b3 i e0 he0
      · obtain ⟨g1, g2, rcs, tt, g3, g4, g5⟩ := b4 hpos
        refine ⟨g1, g2, rcs, tt, g3, g4, fun i j e x he' hx => ?_⟩
        rw [List.getElem?_map] at he'
        simp only [Option.map_eq_some_iff] at he'
        obtain ⟨e0, he0, rfl⟩ := he'
        rw [List.getElem?_map] at hx
        simp only [Option.map_eq_some_iff] at hx
        obtain ⟨x0, hx0, rfl⟩ := hx
        obtain ⟨v, hv1, hv2⟩ := g5 i j e0 x0 he0 hx0
        exact ⟨v, hv1, hf _ _ _ _ _ hb _ _ hv2⟩
theorem Sat.recell {hp : List Blk} (hS : Sat c m (lk hp) tm a w) (f : T → T) (hf : ∀ l v x, Rep w (m.ok c.B l) v x → Rep w (m.ok c.B l) v (f x)) : Sat c m (lk (hp.map (mapB f))) (mapTm f tm) a w := by
  obtain ⟨e1, M1⟩ := hS.mem.recell f (fun _ _ _ _ l _ v x => hf l v x)
  rw [lk_map]
  refine ⟨M1, hS.defers, hS.size, fun t v ht => ?_⟩
  simp only [mapTm, Option.map_eq_some_iff] at ht
  obtain ⟨u, hu, rfl⟩ := ht
  obtain ⟨h2, h3⟩ := hS.tmps t u hu
  refine ⟨h2, ?_⟩
  have h4 := h3.mono e1
  generalize a.tmps.getD t undef = rv at h4
  cases u <;> try exact h4
  cases h4 with
  | t _ _ _ hr => exact .t _ _ _ (hf _ _ _ hr)
theorem wops_part {x : Cx} (E : Env x c) {ops : Array Oper} {K : S → Prop} {Q : Exit → Act → World → Prop} {rest : List Nat} (hn : ∀ s' a' w' m', K s' → Sat c m' (lk s'.hp) s'.tm a' w' → wpOps c.P ops Q rest a' w') :
    ∀ (r : List Oper) (k : Nat) (l : List I) (s : S) (m : Mp) (a : Act) (w : World), (∀ i o, r[i]? = some o → ops[k + i]? = some o) → trIs c.n ops.toList r = some l → Sat c m (lk s.hp) s.tm a w → wops x l s K → wpOps c.P ops Q (List.range' k r.length ++ rest) a w
  | [], k, l, s, m, a, w, hd, ht, hS, hK => by
    simp [trIs] at ht
    subst ht
    exact hn _ _ _ _ hK hS
  | o :: r, k, l, s, m, a, w, hd, ht, hS, hK => by
    simp only [trIs] at ht
    split at ht <;> simp only [Option.some.injEq, reduceCtorEq] at ht
    rename_i i is hi his
    subst ht
    have hget : ops[k]? = some o := hd 0 o rfl
    have hd' : ∀ i o, r[i]? = some o → ops[k + 1 + i]? = some o := fun i o' h => by
      have := hd (i + 1) o' (by simpa using h)
      rwa [show k + (i + 1) = k + 1 + i by omega] at this
    have ih := fun s m a w => wops_part E hn r (k + 1) is s m a w hd' his
    simp only [List.length_cons, List.range'_succ, List.cons_append, wpOps, hget]
    unfold trI at hi
    split at hi <;> try cases hi
    rename_i hdi
    have hdst := dstIn_spec hdi
    cases hg : o.guard with
    | none =>
      rw [hg] at hi
      simp only [Option.some.injEq] at hi
      subst hi
      simp only [wops] at hK
      rw [if_pos (by simp [Region.wanted, hg])]
      exact .inl (wex_sound E hS hdst rfl rfl hK fun s' a' w' m' hk hS' => ih s' m' a' w' hS' hk)
    | some gw =>
      obtain ⟨j, want⟩ := gw
      rw [hg] at hi
      simp only at hi
      split at hi <;> simp only [Option.some.injEq, reduceCtorEq] at hi
      rename_i t ht
      subst hi
      simp only [wops] at hK
      have hput : ∀ m a w, Sat c m (lk s.hp) s.tm a w → Sat c m (lk s.hp) (pt s.tm o.dst (some (.tup []))) (a.put o.dst undef) w := fun m a w h => h.put o.dst hdst (.tup #[] [] rfl (by simp))
      split at hK <;> try exact hK.elim
      rotate_left
      · rename_i hy
        obtain ⟨rv, hrv, hvr⟩ := tmps_get hS hy
        have hyv : yielded ops a.tmps j = none := by
          unfold dstAt at ht
          have ht' : (ops[j]?).bind (·.dst) = some t := by simpa using ht
          unfold yielded
          rw [ht']
          simp only [Option.bind_some, hrv]
          cases hvr
          rfl
        have hw : Region.wanted o (yielded ops a.tmps) = false := by
          unfold Region.wanted
          rw [hg]
          simp only [hyv]
          rfl
        rw [hw]
        exact ih ⟨_, _⟩ m _ w (hput m a w hS) hK
      rename_i y lb hy
      obtain ⟨rv, hrv, hvr⟩ := tmps_get hS hy
      have hyv : yielded ops a.tmps j = some y := by
        unfold dstAt at ht
        have ht' : (ops[j]?).bind (·.dst) = some t := by simpa using ht
        unfold yielded
        rw [ht']
        simp only [Option.bind_some, hrv]
        cases hvr with
        | t _ _ _ hr => cases hr; rfl
      have hw : Region.wanted o (yielded ops a.tmps) = (y == want) := by
        unfold Region.wanted
        rw [hg]
        simp only [hyv]
        cases y <;> cases want <;> rfl
      rw [hw]
      cases hb : (y == want) with
      | true => exact .inl (wex_sound E hS hdst rfl rfl (hK.1 hb) fun s' a' w' m' hk hS' => ih s' m' a' w' hS' hk)
      | false => exact ih ⟨_, _⟩ m _ w (hput m a w hS) (hK.2 hb)
theorem trIs_split {n : Nat} {ops : List Oper} : ∀ {pre : List I} {i : I} {suf : List I} {r : List Oper}, trIs n ops r = some (pre ++ i :: suf) → ∃ r1 o r2, r = r1 ++ o :: r2 ∧ trIs n ops r1 = some pre ∧ trI n ops o = some i ∧ trIs n ops r2 = some suf
  | [], i, suf, [], h => by simp [trIs] at h
  | _ :: _, i, suf, [], h => by simp [trIs] at h
  | pre, i, suf, o :: r, h => by
    simp only [trIs] at h
    split at h <;> simp only [Option.some.injEq, reduceCtorEq] at h
    rename_i i0 is hi his
    cases pre with
    | nil =>
      simp only [List.nil_append, List.cons.injEq] at h
      obtain ⟨rfl, rfl⟩ := h
      exact ⟨[], o, r, rfl, rfl, hi, his⟩
    | cons p pre =>
      simp only [List.cons_append, List.cons.injEq] at h
      obtain ⟨rfl, rfl⟩ := h
      obtain ⟨r1, o', r2, rfl, h1, h2, h3⟩ := trIs_split his
      exact ⟨o :: r1, o', r2, rfl, by simp [trIs, hi, h1], h2, h3⟩
def keepB (kb : List Nat) : Nat → List Blk → List Blk
  | _, [] => []
  | i, b :: bs => (match inN i kb with | true => b | false => .gone) :: keepB kb (i + 1) bs
theorem keepB_get (kb : List Nat) : ∀ (bs : List Blk) (k i : Nat), (keepB kb k bs)[i]? = (bs[i]?).map fun b => match inN (k + i) kb with | true => b | false => .gone
  | [], k, i => by simp [keepB]
  | b :: bs, k, i => by
    cases i with
    | zero => simp [keepB]
    | succ i =>
      simp only [keepB, List.getElem?_cons_succ]
      rw [keepB_get kb bs (k + 1) i, show k + 1 + i = k + (i + 1) by omega]
theorem Sat.keepB {hp : List Blk} (hS : Sat c m (lk hp) tm a w) (kb : List Nat) : Sat c m (lk (keepB kb 0 hp)) tm a w := by
  have hlk : ∀ i, lk (Pm.keepB kb 0 hp) i = (lk hp i).map fun b => match inN i kb with | true => b | false => .gone := fun i => by
    unfold lk
    rw [keepB_get, Nat.zero_add]
  have hrow : ∀ i v z es l, lk (Pm.keepB kb 0 hp) i = some (.row v z es l) → lk hp i = some (.row v z es l) := fun i v z es l hh => by
    rw [hlk] at hh
    simp only [Option.map_eq_some_iff] at hh
    obtain ⟨b, h1, h2⟩ := hh
    split at h2
    · rw [h1, h2]
    · cases h2
  have hrw : ∀ id ver r, rowOf (lk (Pm.keepB kb 0 hp)) id ver = some r → rowOf (lk hp) id ver = some r := fun id ver r hh => by
    obtain ⟨z, es, l⟩ := r
    have := hrow _ _ _ _ _ (rowOf_some hh)
    simp [rowOf, this]
  have he : Ext m (lk hp) w m (lk (Pm.keepB kb 0 hp)) w := ⟨fun id hid => by rw [hlk]; simpa using hid, fun _ _ => rfl, fun id v' z es l _ hh => ⟨v', z, es, l, hrow _ _ _ _ _ hh, Nat.le_refl _⟩, fun id ver z es l _ _ hh => ⟨⟨es, l, hrw _ _ _ hh⟩, rfl⟩, fun _ h => h, fun _ _ => rfl⟩
  have hpl : ∀ i g, place m (lk (Pm.keepB kb 0 hp)) i = some g → place m (lk hp) i = some g := fun i g hg => by
    unfold place at hg ⊢
    rw [hlk] at hg
    cases hb : lk hp i with
    | none => rw [hb] at hg; cases hg
    | some b =>
      rw [hb] at hg
      simp only [Option.map_some] at hg
      split at hg
      · exact hg
      · cases hg
  refine hS.of_mem he ⟨hS.mem.below, hS.mem.kept, fun i b hi => ?_, fun i j g hi hj => hS.mem.sep i j g (hpl i g hi) (hpl j g hj), hS.mem.stlt, hS.mem.stin, hS.mem.soft⟩
  rw [hlk] at hi
  simp only [Option.map_eq_some_iff] at hi
  obtain ⟨b0, hb0, hb1⟩ := hi
  split at hb1
  · subst hb1
    exact (hS.mem.blk i b0 hb0).keep he rfl rfl fun g hg => ⟨(hS.mem.placed hb0 hg).2.2, rfl⟩
  · subst hb1; trivial
theorem upds_number : ∀ (bs hp : List Blk), upds hp (number hp.length bs) = hp ++ bs
  | [], hp => by simp [number, upds]
  | b :: bs, hp => by
    have := upds_number bs (hp ++ [b])
    simp only [List.length_append, List.length_singleton] at this
    simp only [number, upds, upd1, Nat.lt_irrefl, if_false]
    rw [this]
    simp
def HK1 (x : Cx) (l : List I) (s : S) (K : S → Prop) : Prop :=
  ∃ pre d cl suf, l = pre ++ ⟨some d, .call cl, none⟩ :: suf ∧ wops x pre s fun s1 =>
    ∃ f vs g ts0 ts bs r, cl.callee = .value f ∧ ev s1.tm f = some (.fn g []) ∧ evs s1.tm cl.args.toList = some vs ∧ argsOK (lk s1.hp) vs ts0 ∧ bares ts0 ts ∧ x.spec g ts bs r ∧ r.fresh = true ∧ bs.all Blk.fresh = true ∧
      ∀ N : Nat, wops x suf ⟨up (mapTm (markT (· < N)) s1.tm) d (some (r.sh s1.hp.length)), s1.hp.map (mapB (markT (· < N))) ++ bs.map (mapB (markT (N ≤ ·)))⟩ K
def HK3 (x : Cx) (l : List I) (s : S) (K : S → Prop) : Prop := ∃ kb, wops x l s fun s1 => K ⟨s1.tm, keepB kb 0 s1.hp⟩
theorem hk3_sound {x : Cx} (E : Env x c) {l : List I} {s : S} {K : S → Prop} (hK : HK3 x l s K) {ops : Array Oper} {Q : Exit → Act → World → Prop} (ht : trIs c.n ops.toList ops.toList = some l) (hS : Sat c m (lk s.hp) s.tm a w)
    (hQ : ∀ s' a' w' m', K s' → Sat c m' (lk s'.hp) s'.tm a' w' → Q .normal a' w') : wpOps c.P ops Q (List.range' 0 ops.toList.length) a w := by
  obtain ⟨kb, hK⟩ := hK
  exact wops_sound E (K := fun s1 => K ⟨s1.tm, keepB kb 0 s1.hp⟩) (fun s' a' w' m' hk hS' => hQ _ a' w' m' hk (hS'.keepB kb)) ops.toList 0 l s m a w (by simp) ht hS hK
theorem mark_called (hM : Mem c m h w) {n g : Nat} (lo : Bool) {bs : List Blk} {r : AV} (hn : ∀ i, n ≤ i → i < n + bs.length → h i = none) (hform : ok3 r = true) (hrows : ∀ b ∈ bs, ∃ z es l, b = .row 0 z es l)
    (hr : r.fresh = true) (hb : bs.all Blk.fresh = true) {args : Array Value} {hG : GlobOK w (lead m w lo)}
    (hcall : Calls c.P g args w fun
      | .returned v, w' => ∃ m1, Mem ⟨c.P, w, lead m w lo, 0, w.heap.size, Nat.le_refl _, hG⟩ m1 (lk bs) w' ∧ VR m1 w.heap.size (lk bs) w' v r
      | _, _ => False) :
    Calls c.P g args w fun
      | .returned v, w' => ∃ m', Ext m h w m' (uH h (number n (bs.map (mapB (markT (w.heap.size ≤ ·)))))) w' ∧ Mem c m' (uH h (number n (bs.map (mapB (markT (w.heap.size ≤ ·)))))) w' ∧ VR m' c.B (uH h (number n (bs.map (mapB (markT (w.heap.size ≤ ·)))))) w' v (r.sh n)
      | _, _ => False := by
  refine called_at hM lo (by simpa using hn) hform (fun b hb => ?_) (fun _ => ⟨hr, ?_⟩) (hG := hG) (hcall.mono fun e w' he => ?_)
  · obtain ⟨b0, hb0, rfl⟩ := List.mem_map.1 hb
    obtain ⟨z, es, l, rfl⟩ := hrows b0 hb0
    exact ⟨_, _, _, rfl⟩
  · rw [List.all_eq_true] at hb ⊢
    intro b hb'
    obtain ⟨b0, hb0, rfl⟩ := List.mem_map.1 hb'
    have := hb b0 hb0
    cases b0 <;> exact this
  · cases e with
    | panicked _ => exact he
    | outgrown => exact he
    | returned v =>
      obtain ⟨m1, M1, hv⟩ := he
      obtain ⟨e2, M2⟩ := M1.recell (markT (w.heap.size ≤ ·)) (fun id ver z es l hh v x hrep => by
        have hl : l = true := by
          rw [List.all_eq_true] at hb
          exact hb _ (List.mem_of_getElem? hh)
        subst hl
        exact rep_mark hrep fun b hb => hb.2 rfl)
      rw [← lk_map] at e2 M2
      exact ⟨m1, M2, hv.mono e2⟩
theorem hk1_sound {x : Cx} (E : Env x c) {l : List I} {s : S} {K : S → Prop} (hK : HK1 x l s K) {ops : Array Oper} {Q : Exit → Act → World → Prop} (ht : trIs c.n ops.toList ops.toList = some l) (hS : Sat c m (lk s.hp) s.tm a w)
    (hQ : ∀ s' a' w' m', K s' → Sat c m' (lk s'.hp) s'.tm a' w' → Q .normal a' w') : wpOps c.P ops Q (List.range' 0 ops.toList.length) a w := by
  obtain ⟨pre, d, cl, suf, rfl, hK⟩ := hK
  obtain ⟨r1, o, r2, hr, t1, t2, t3⟩ := trIs_split ht
  have hlen : ops.toList.length = r1.length + (1 + r2.length) := by rw [hr]; simp; omega
  have hget : ∀ i, ops[i]? = (r1 ++ o :: r2)[i]? := fun i => by rw [← hr, Array.getElem?_toList]
  have hrng : List.range' 0 ops.toList.length = List.range' 0 r1.length ++ (r1.length :: List.range' (r1.length + 1) r2.length) := by
    rw [hlen, ← List.range'_append_1, Nat.add_comm 1, List.range'_succ]
    simp
  rw [hrng]
  refine wops_part E (fun s1 a1 w1 m1 hk hS1 => ?_) r1 0 pre s m a w (fun i o' h => by rw [Nat.zero_add, hget, List.getElem?_append_left (List.getElem?_eq_some_iff.1 h).1]; exact h) t1 hS hK
  obtain ⟨f, vs, g, ts0, ts, bs, r, hcl, hf, hvs, ha, hb, hsp, hr1, hb1, hk⟩ := hk
  have hsp' := E.spec _ _ _ _ hsp
  obtain ⟨fn, bd, hfn, hbd, hname⟩ := hsp'.body
  have ho : ops[r1.length]? = some o := by rw [hget]; simp
  simp only [wpOps, ho]
  unfold trI at t2
  split at t2 <;> try cases t2
  rename_i hdi
  have hdst := dstIn_spec hdi
  cases hg : o.guard with
  | some gw =>
    obtain ⟨j, want⟩ := gw
    rw [hg] at t2
    simp only at t2
    split at t2 <;> simp at t2
  | none =>
  rw [hg] at t2
  simp only [Option.some.injEq, I.mk.injEq, and_true] at t2
  obtain ⟨hd1, hop⟩ := t2
  rw [if_pos (by simp [Region.wanted, hg])]
  refine .inl ?_
  obtain ⟨dst, op, ty, pos, after, guard⟩ := o
  simp only at hd1 hop hdst hg
  subst hop
  obtain ⟨callee, args, tys⟩ := cl
  simp only at hcl hvs
  subst hcl
  have hfv := ev_vr hS1 hf
  generalize hfe : a1.eval f = rf at hfv
  obtain ⟨hl1, hg1⟩ := evs_vr hS1 hvs
  cases hfv with
  | fn _ caps _ hcs hcv =>
  have hcaps : caps = #[] := by
    apply Array.eq_empty_of_size_eq_zero
    simpa using hcs
  subst hcaps
  have hrun : (execOp a1.eval { dst, op := .call { callee := .value f, args := args, argTypes := tys }, type := ty, pos, after, guard }).run c.P w1 = .ok (.enter g (args.map a1.eval ++ #[])) w1 := by
    simp only [execOp, resolve, hfe, Deferred.ofValue, Sem.run_bind, Sem.run_pure, Result.andThen_ok, invoke]
    simp [callFunc, hfn, hname, hbd]
  unfold Oper.wp
  rw [hrun, Oper.upon_enter]
  obtain ⟨al0, ag⟩ := argsOK_get ha
  obtain ⟨al, ab⟩ := bares_get hb
  have hsz : (args.map a1.eval ++ #[]).size = vs.length := by simp at hl1 ⊢; omega
  have hargs : ∀ (j : Nat) (v : Value) (y : T), (args.map a1.eval ++ #[])[j]? = some v → ts[j]? = some y → Rep w1 (lead m1 w1 (vs.any AV.loose)) v y := fun j v y hv hy => by
    have hj := (List.getElem?_eq_some_iff.1 hy).1
    obtain ⟨u, hu⟩ := list_get (l := vs) (j := j) (by omega)
    obtain ⟨x0, hx0, hr0⟩ := ab j y hy
    refine hr0 _ _ _ (lead_mono (fun e => ?_) (arg_rep hS1.mem (ag j u x0 hu hx0) (hg1 j v u (by rw [← Array.toList_map]; simpa using hv) hu)))
    rw [List.any_eq_false] at e
    simpa using e u (List.mem_of_getElem? hu)
  have hG := glob_in (B := lead m1 w1 (vs.any AV.loose)) hS1.mem fun b hb => ⟨hS1.mem.stlt b (hS1.mem.kept b hb).1, fun _ => (hS1.mem.kept b hb).1⟩
  have hcall := hsp'.run w1 (lead m1 w1 (vs.any AV.loose)) (args.map a1.eval ++ #[]) (fun b hb => hb.1) hG (by omega) hargs
  have hS2 := hS1.recell (markT (· < w1.heap.size)) (fun l v y hrep => rep_mark hrep fun b hb => hS1.mem.stlt b hb.1)
  refine (mark_called hS2.mem (n := s1.hp.length) _ (fun i hi1 hi2 => List.getElem?_eq_none (by simpa using hi1)) hsp'.form hsp'.rows hr1 hb1 hcall).mono fun e w' he => ?_
  cases e with
  | panicked _ => exact he.elim
  | outgrown => exact he.elim
  | returned rv =>
    obtain ⟨m', e1, M1, hv⟩ := he
    have hlk : uH (lk (s1.hp.map (mapB (markT (· < w1.heap.size))))) (number s1.hp.length (bs.map (mapB (markT (w1.heap.size ≤ ·))))) = lk (s1.hp.map (mapB (markT (· < w1.heap.size))) ++ bs.map (mapB (markT (w1.heap.size ≤ ·)))) := by
      have h1 := upds_number (bs.map (mapB (markT (w1.heap.size ≤ ·)))) (s1.hp.map (mapB (markT (· < w1.heap.size))))
      rw [List.length_map] at h1
      rw [← h1, lk_upds _ _ (by rw [List.length_map]; exact fits_number _ _)]
    rw [hlk] at e1 M1 hv
    have hS3 := (hS2.of_mem e1 M1).put dst hdst hv
    have := wops_part E (ops := ops) (Q := Q) (rest := []) (fun s' a' w' m' hk hS' => hQ s' a' w' m' hk hS') r2 (r1.length + 1) suf ⟨up (mapTm (markT (· < w1.heap.size)) s1.tm) d (some (r.sh s1.hp.length)), _⟩ m' _ w' (fun i o' h => by
      rw [hget, List.getElem?_append_right (by omega), show r1.length + 1 + i - r1.length = i + 1 by omega]
      exact h) t3 (by rw [hd1] at hS3; exact hS3) (hk w1.heap.size)
    rw [List.append_nil] at this
    rw [hd1]
    exact this
end
end Go.Proofs.YtgkmhmhbepfiaaaDoor.Pm
set_option linter.all false
namespace Go.Proofs.YtgkmhmhbepfiaaaDoor.Pm
open Go Go.RowKit
def safeT (N : Nat) : T → Prop
  | .inn D _ => D = fun b => b < N
  | x => x.flat = true
def safeV (N : Nat) : AV → Prop
  | .t x _ => safeT N x
  | .nl | .e0 | .row .. | .vs .. | .ptr .. | .eptr .. => True
  | _ => False
def cellR (N : Nat) (c c' : T) : Prop := (safeT N c ∧ c' = c) ∨ ∃ bs bs' : List (BitVec 8), c = .inn (fun b => N ≤ b) (.sl (bT bs)) ∧ c' = .inn (fun b => N ≤ b) (.sl (bT bs')) ∧ bs'.length = bs.length
def fineT (N : Nat) (c : T) : Prop := safeT N c ∨ ∃ bs : List (BitVec 8), c = .inn (fun b => N ≤ b) (.sl (bT bs))
def EsR (N : Nat) (es es' : List (List T)) : Prop := es'.length = es.length ∧ ∀ (i : Nat) (e e' : List T), es[i]? = some e → es'[i]? = some e' → e'.length = e.length ∧ ∀ (j : Nat) (c c' : T), e[j]? = some c → e'[j]? = some c' → cellR N c c'
def fineB (N : Nat) : Blk → Prop
  | .row _ _ es _ => ∀ e ∈ es, ∀ c ∈ e, fineT N c
  | .var cs => ∀ v ∈ cs, safeV N v
  | .gone => True
def BlkR (N : Nat) : Blk → Blk → Prop
  | .row ver z es l, b' => ∃ es', b' = .row ver z es' l ∧ EsR N es es'
  | b, b' => b' = b
def HpR (N : Nat) (hp hp' : List Blk) : Prop := hp'.length = hp.length ∧ ∀ (i : Nat) (b b' : Blk), hp[i]? = some b → hp'[i]? = some b' → BlkR N b b'
def HK2 (x : Cx) (l : List I) (s : S) (K : S → Prop) : Prop :=
  ∃ pre t p u, l = pre ++ [⟨none, .store t p u, none⟩] ∧ wops x pre s fun s1 =>
    ∃ (N : Nat) (n0 : Int) (cs : List T) (b : BitVec 8) (l2 : Bool) (ks : List Nat), (∃ i, x.ti t = some i ∧ i.sz = 1) ∧ ev s1.tm p = some (.t (.inn (fun b => N ≤ b) (.pt (.i .u8 n0 :: cs))) true) ∧ ev s1.tm u = some (.t (.i .u8 b.toNat) l2) ∧
      (∀ t ∈ ks, ∀ v, gt s1.tm t = some v → safeV N v) ∧ (∀ b ∈ s1.hp, fineB N b) ∧ ∀ hp', HpR N s1.hp hp' → K ⟨restr s1.tm ks, hp'⟩
theorem list_pick {α β : Type} : ∀ (l : List α) (R : Nat → α → β → Prop), (∀ (i : Nat) (a : α), l[i]? = some a → ∃ b, R i a b) → ∃ l' : List β, l'.length = l.length ∧ ∀ (i : Nat) (a : α) (b : β), l[i]? = some a → l'[i]? = some b → R i a b
  | [], R, _ => ⟨[], rfl, by simp⟩
  | a :: l, R, h => by
    obtain ⟨b, hb⟩ := h 0 a rfl
    obtain ⟨l', h1, h2⟩ := list_pick l (fun i => R (i + 1)) (fun i a ha => h (i + 1) a (by simpa using ha))
    refine ⟨b :: l', by simp [h1], fun i x y hx hy => ?_⟩
    cases i with
    | zero => simp at hx hy; subst hx; subst hy; exact hb
    | succ i => exact h2 i x y (by simpa using hx) (by simpa using hy)
section
variable {P : Program} {w w' : World} {c : Ct} {m m' m1 : Mp} {h h' h1 : H} {ti : Nat → Option TI} {tm : Tm} {a : Act}
theorem setCell_same {w : World} {ad : Addr} {v : Value} {k : Nat} (hk : k ≠ ad.block) : (w.setCell ad v).heap[k]? = w.heap[k]? := Below.heap_setCell w ad v k hk
theorem setCell_heap {w : World} {ad : Addr} {v : Value} {rcs : Array Value} {t : Nat} {f : Nat × Nat} (hs : ad.spot = none) (hh : w.heap[ad.block]? = some (.cells rcs t f)) : (w.setCell ad v).heap[ad.block]? = some (.cells (rcs.setIfInBounds ad.off v) t f) := by
  unfold World.setCell
  simp only [Array.getElem?_modify, if_true, hh, Option.map_some, hs]
  rfl
theorem setCell_size (w : World) (ad : Addr) (v : Value) : (w.setCell ad v).heap.size = w.heap.size := by
  unfold World.setCell
  simp
theorem setCell_cell {w : World} {ad : Addr} {v v0 : Value} (h0 : w.cell? ad = some v0) {a' : Addr} {u : Value} (hu : w.cell? a' = some u) : (w.setCell ad v).cell? a' = some u ∨ (w.setCell ad v).cell? a' = some v := by
  by_cases hb : a'.block = ad.block
  · unfold World.cell? at h0
    split at h0 <;> try cases h0
    rename_i rcs t f hh
    split at h0
    · cases h0
    rename_i hsp
    have hsp' : ad.spot = none := by
      cases hx : ad.spot with
      | none => rfl
      | some _ => rw [hx] at hsp; exact absurd rfl hsp
    have hh' := setCell_heap (v := v) hsp' hh
    unfold World.cell? at hu ⊢
    rw [hb] at hu ⊢
    rw [hh] at hu
    rw [hh']
    simp only at hu ⊢
    split at hu
    · cases hu
    rename_i hsa
    rw [if_neg hsa]
    by_cases ho : a'.off = ad.off
    · right
      rw [ho] at hu ⊢
      have := (Array.getElem?_eq_some_iff.1 hu).1
      simp [this]
    · left
      rw [Array.getElem?_setIfInBounds_ne (Ne.symm ho)]
      exact hu
  · left
    rw [← hu]
    exact cell_block (setCell_same hb)
theorem rep_low {N : Nat} {ad : Addr} (hN : N ≤ ad.block) {u : Value} {B : Nat → Prop} {v : Value} {x : T} (hr : Rep w (fun b => B b ∧ b < N) v x) : Rep (w.setCell ad u) (fun b => B b ∧ b < N) v x :=
  hr.mono (fun _ h => h) (fun b hb => setCell_same fun e => by subst e; exact absurd hb.2 (Nat.not_lt.2 hN))
theorem rep_safe {N : Nat} {ad : Addr} (hN : N ≤ ad.block) {u : Value} {B : Nat → Prop} {v : Value} {x : T} (hx : safeT N x) (hr : Rep w B v x) : Rep (w.setCell ad u) B v x := by
  cases x
  all_goals try (simp [safeT, T.flat] at hx; done)
  case i k n => cases hr; exact .i _ _
  case b y => cases hr; exact .b _
  case s y => cases hr; exact .s _
  case inn D y =>
    obtain rfl : D = fun b => b < N := hx
    cases hr with | inn _ _ _ h1 hr => exact .inn _ _ _ h1 (rep_low hN hr)
theorem bTr_get {bs : List (BitVec 8)} {i j : Nat} {e : List T} {x : T} (he : (bT bs)[i]? = some e) (hx : e[j]? = some x) : j = 0 ∧ ∃ b, bs[i]? = some b ∧ x = .i .u8 b.toNat := by
  unfold bT at he
  rw [List.getElem?_map] at he
  simp only [Option.map_eq_some_iff] at he
  obtain ⟨b, hb, rfl⟩ := he
  cases j with
  | zero => simp at hx; exact ⟨rfl, b, hb, hx.symm⟩
  | succ j => simp at hx
theorem rep_bytes {ad : Addr} {v0 : Value} (h0 : w.cell? ad = some v0) (nb : BitVec 8) {B : Nat → Prop} {v : Value} {bs : List (BitVec 8)} (hr : Rep w B v (.sl (bT bs))) :
    ∃ bs' : List (BitVec 8), bs'.length = bs.length ∧ Rep (w.setCell ad (.int .u8 nb.toNat)) B v (.sl (bT bs')) := by
  cases hr with
  | sl A n cc _ z vals hn hc hm hz0 hz hA hv =>
    have hlen : bs.length = n := by simpa [bT] using hn
    rcases Nat.eq_zero_or_pos n with hn0 | hpos
    · subst hn0
      obtain rfl : bs = [] := List.length_eq_zero_iff.1 hlen
      exact ⟨[], rfl, .sl A _ cc _ z vals hn hc hm hz0 hz (fun h => absurd h (Nat.lt_irrefl _)) (fun i j e x he => by simp [bT] at he)⟩
    obtain ⟨ad0, rfl, hB, hcell⟩ := hA hpos
    have hz1 : z = 1 := by
      have := hz 0 [.i .u8 (bs[0]'(by omega)).toNat] (by unfold bT; rw [List.getElem?_map, List.getElem?_eq_getElem (by omega)]; rfl)
      simpa using this.symm
    subst hz1
    obtain ⟨bs', hl', hp⟩ := list_pick bs (fun i b b' => (w.setCell ad (.int .u8 nb.toNat)).cell? (ad0.add (i * 1 + 0)) = some (.int .u8 (b' : BitVec 8).toNat)) (fun i b hb => by
      have hi := (List.getElem?_eq_some_iff.1 hb).1
      have h1 := hcell i 0 (by omega) (by omega)
      have h2 := hv i 0 [.i .u8 b.toNat] (.i .u8 b.toNat) (by unfold bT; rw [List.getElem?_map, hb]; rfl) rfl
      generalize hvv : vals i 0 = vv at h1 h2
      cases h2
      rcases setCell_cell (v := .int .u8 nb.toNat) h0 h1 with h3 | h3
      · exact ⟨b, h3⟩
      · exact ⟨nb, h3⟩)
    refine ⟨bs', hl', .sl _ n cc _ 1 (fun i _ => ((w.setCell ad (.int .u8 nb.toNat)).cell? (ad0.add (i * 1 + 0))).getD undef) (by simp [bT]; omega) hc hm hz0 (fun i e he => ?_) (fun _ => ⟨ad0, rfl, hB, fun i j hi hj => ?_⟩) fun i j e x he hx => ?_⟩
    · unfold bT at he
      rw [List.getElem?_map] at he
      simp only [Option.map_eq_some_iff] at he
      obtain ⟨b, hb, rfl⟩ := he
      rfl
    · obtain rfl : j = 0 := by omega
      have h1 := hcell i 0 hi hj
      rcases setCell_cell (v := .int .u8 nb.toNat) h0 h1 with h3 | h3
      · rw [h3]; rfl
      · rw [h3]; rfl
    · obtain ⟨rfl, b', hb', rfl⟩ := bTr_get he hx
      have hi : i < bs.length := by have := (List.getElem?_eq_some_iff.1 hb').1; omega
      have := hp i bs[i] b' (List.getElem?_eq_getElem hi) hb'
      simp only [this, Option.getD_some]
      exact .i _ _
theorem rep_cell {N : Nat} {ad : Addr} (hN : N ≤ ad.block) {v0 : Value} (h0 : w.cell? ad = some v0) (nb : BitVec 8) {B : Nat → Prop} {v : Value} {x : T} (hx : fineT N x) (hr : Rep w B v x) :
    ∃ x', cellR N x x' ∧ Rep (w.setCell ad (.int .u8 nb.toNat)) B v x' := by
  rcases hx with hx | ⟨bs, rfl⟩
  · exact ⟨x, .inl ⟨hx, rfl⟩, rep_safe hN hx hr⟩
  · cases hr with
    | inn _ _ _ h1 hr =>
      obtain ⟨bs', hl, hr'⟩ := rep_bytes h0 nb hr
      exact ⟨_, .inr ⟨bs, bs', rfl, rfl, hl⟩, .inn _ _ _ h1 hr'⟩
def RowOK (m : Mp) (B : Nat) (w : World) (id : Nat) : Blk → Prop
  | .row v z es l => ∀ h, BlkOK m B h w id (.row v z es l)
  | _ => True
theorem blk_store (hM : Mem c m h w) {N : Nat} {ad : Addr} (hN : N ≤ ad.block) (hst : m.st ad.block) {v0 : Value} (h0 : w.cell? ad = some v0) (nb : BitVec 8) {id : Nat} {b : Blk} (hb : h id = some b) (hf : fineB N b) :
    ∃ b', BlkR N b b' ∧ RowOK m c.B (w.setCell ad (.int .u8 nb.toNat)) id b' := by
  cases b with
  | gone => exact ⟨.gone, rfl, trivial⟩
  | var cs => exact ⟨.var cs, rfl, trivial⟩
  | row ver z es l =>
    obtain ⟨b1, b2, b3, b4⟩ := hM.blk id _ hb
    have hcells : ∃ es', EsR N es es' ∧ (0 < (m.ψ id).2 → ∀ rcs tt, w.heap[(m.ψ id).1]? = some (.cells rcs tt (0, 0)) → ∀ (i j : Nat) (e : List T) (x : T), es'[i]? = some e → e[j]? = some x → ∃ v, rcs[i * z + j]? = some v ∧ Rep (w.setCell ad (.int .u8 nb.toNat)) (m.ok c.B l) v x) := by
      have key : ∀ (i : Nat) (e : List T), es[i]? = some e → ∃ e' : List T, e'.length = e.length ∧ ∀ (j : Nat) (y y' : T), e[j]? = some y → e'[j]? = some y' → cellR N y y' ∧ (0 < (m.ψ id).2 → ∀ rcs tt, w.heap[(m.ψ id).1]? = some (.cells rcs tt (0, 0)) → ∃ v, rcs[i * z + j]? = some v ∧ Rep (w.setCell ad (.int .u8 nb.toNat)) (m.ok c.B l) v y') := fun i e he => by
        refine list_pick e (fun j y y' => cellR N y y' ∧ (0 < (m.ψ id).2 → ∀ rcs tt, w.heap[(m.ψ id).1]? = some (.cells rcs tt (0, 0)) → ∃ v, rcs[i * z + j]? = some v ∧ Rep (w.setCell ad (.int .u8 nb.toNat)) (m.ok c.B l) v y')) fun j y hy => ?_
        have hfy := hf e (List.mem_of_getElem? he) y (List.mem_of_getElem? hy)
        have hpos : 0 < (m.ψ id).2 := by have := (List.getElem?_eq_some_iff.1 he).1; omega
        obtain ⟨g1, g2, rcs, tt, g3, g4, g5⟩ := b4 hpos
        obtain ⟨v, hv1, hv2⟩ := g5 i j e y he hy
        obtain ⟨y', hy1, hy2⟩ := rep_cell hN h0 nb hfy hv2
        refine ⟨y', hy1, fun _ rcs' tt' hh => ?_⟩
        rw [g3] at hh
        simp only [Option.some.injEq, Obj.cells.injEq] at hh
        obtain ⟨rfl, _⟩ := hh
        exact ⟨v, hv1, hy2⟩
      obtain ⟨es', k1, k2⟩ := list_pick es (fun (i : Nat) (e e' : List T) => e'.length = e.length ∧ ∀ (j : Nat) (y y' : T), e[j]? = some y → e'[j]? = some y' → cellR N y y' ∧ (0 < (m.ψ id).2 → ∀ rcs tt, w.heap[(m.ψ id).1]? = some (.cells rcs tt (0, 0)) → ∃ v, rcs[i * z + j]? = some v ∧ Rep (w.setCell ad (.int .u8 nb.toNat)) (m.ok c.B l) v y')) key
      refine ⟨es', ⟨k1, fun i e e' he he' => ⟨(k2 i e e' he he').1, fun j y y' hy hy' => ((k2 i e e' he he').2 j y y' hy hy').1⟩⟩, fun hpos rcs tt hh i j e' x he' hx => ?_⟩
      have hi : i < es.length := by have := (List.getElem?_eq_some_iff.1 he').1; omega
      obtain ⟨e, he⟩ := list_get (l := es) (j := i) hi
      obtain ⟨q1, q2⟩ := k2 i e e' he he'
      have hj : j < e.length := by have := (List.getElem?_eq_some_iff.1 hx).1; omega
      obtain ⟨y, hy⟩ := list_get (l := e) (j := j) hj
      exact (q2 j y x hy hx).2 hpos rcs tt hh
    obtain ⟨es', k1, k2⟩ := hcells
    refine ⟨.row ver z es' l, ⟨es', rfl, k1⟩, fun h'' => ⟨by rw [k1.1]; exact b1, by rw [k1.1]; exact b2, fun i e' he' => ?_, fun hpos => ?_⟩⟩
    · have hi : i < es.length := by have := (List.getElem?_eq_some_iff.1 he').1; rw [← k1.1]; exact this
      obtain ⟨e, he⟩ := list_get (l := es) (j := i) hi
      rw [(k1.2 i e e' he he').1]
      exact b3 i e he
    · obtain ⟨g1, g2, rcs, tt, g3, g4, g5⟩ := b4 hpos
      refine ⟨g1, g2, rcs, tt, ?_, g4, fun i j e x he hx => k2 hpos rcs tt g3 i j e x he hx⟩
      rw [setCell_same (fun e => g2 (by rw [e]; exact hst))]
      exact g3
theorem vr_store {N : Nat} {ad : Addr} (hN : N ≤ ad.block) {u : Value} {hp hp' : List Blk} (hR : HpR N hp hp') {B : Nat} {rv : Value} {v : AV} (hv : VR m B (lk hp) w rv v) (hs : safeV N v) : VR m B (lk hp') (w.setCell ad u) rv v := by
  have hk : ∀ id, (lk hp id).isSome = true → (lk hp' id).isSome = true := fun id h => by
    unfold lk at h ⊢
    have h1 : id < hp.length := by simpa using h
    simp [hR.1, h1]
  have hrow : ∀ id v z es l, lk hp' id = some (.row v z es l) → ∃ es0, lk hp id = some (.row v z es0 l) := fun id v z es l h => by
    unfold lk at h ⊢
    have h1 := (List.getElem?_eq_some_iff.1 h).1
    obtain ⟨b, hb⟩ := list_get (l := hp) (j := id) (by rw [← hR.1]; exact h1)
    have := hR.2 id b _ hb h
    cases b with
    | row v0 z0 es0 l0 =>
      obtain ⟨es', e1, _⟩ := this
      simp only [Blk.row.injEq] at e1
      obtain ⟨rfl, rfl, rfl, rfl⟩ := e1
      exact ⟨es0, hb⟩
    | var cs => cases this
    | gone => cases this
  have hro : ∀ id ver z es l, rowOf (lk hp') id ver = some (z, es, l) → ∃ es0, rowOf (lk hp) id ver = some (z, es0, l) := fun id ver z es l h => by
    obtain ⟨es0, h0⟩ := hrow _ _ _ _ _ (rowOf_some h)
    exact ⟨es0, by simp [rowOf, h0]⟩
  have hver : ∀ id ver, verOK (lk hp) id ver → verOK (lk hp') id ver := fun id ver h v' z es l hh => by
    obtain ⟨es0, h0⟩ := hrow _ _ _ _ _ hh
    exact h _ _ _ _ h0
  cases hv with
  | t _ x l hr => exact .t _ _ _ (rep_safe hN hs hr)
  | nl => exact .nl
  | e0 A => exact .e0 A
  | row id ver off len k A hid hv hc hr =>
    refine .row id ver off len k A (hk _ hid) (hver _ _ hv) hc fun z es l h => ?_
    obtain ⟨es0, h0⟩ := hro _ _ _ _ _ h
    exact hr _ _ _ h0
  | vs id off len z k A hid hc hA => exact .vs id off len z k A (hk _ hid) hc hA
  | ptr id off hid => exact .ptr id off (hk _ hid)
  | eptr id ver i j x hid hv hr =>
    refine .eptr id ver i j x (hk _ hid) (hver _ _ hv) fun z es l h => ?_
    obtain ⟨es0, h0⟩ := hro _ _ _ _ _ h
    exact hr _ _ _ h0
  | fn => exact hs.elim
  | agg => exact hs.elim
  | tup => exact hs.elim
theorem place_store {N : Nat} {hp hp' : List Blk} (hR : HpR N hp hp') (i : Nat) : place m (lk hp') i = place m (lk hp) i := by
  unfold place lk
  rcases Nat.lt_or_ge i hp.length with h1 | h1
  · obtain ⟨b, hb⟩ := list_get (l := hp) (j := i) h1
    obtain ⟨b', hb'⟩ := list_get (l := hp') (j := i) (by rw [hR.1]; exact h1)
    rw [hb, hb']
    have := hR.2 i b b' hb hb'
    cases b with
    | row v0 z0 es0 l0 =>
      obtain ⟨es', rfl, _⟩ := this
      rfl
    | var cs => rw [show b' = _ from this]
    | gone => rw [show b' = _ from this]
  · rw [List.getElem?_eq_none h1, List.getElem?_eq_none (by rw [hR.1]; exact h1)]
theorem mem_store {hp : List Blk} (hM : Mem c m (lk hp) w) {N : Nat} {ad : Addr} (hN : N ≤ ad.block) (hst : m.st ad.block) (hcs : ¬ c.st ad.block) (hcB : c.B ≤ ad.block) {v0 : Value} (h0 : w.cell? ad = some v0) (nb : BitVec 8) (hf : ∀ b ∈ hp, fineB N b) :
    ∃ hp', HpR N hp hp' ∧ Mem c m (lk hp') (w.setCell ad (.int .u8 nb.toNat)) := by
  obtain ⟨hp', h1, h2⟩ := list_pick hp (fun i b b' => BlkR N b b' ∧ RowOK m c.B (w.setCell ad (.int .u8 nb.toNat)) i b') fun i b hb => blk_store hM hN hst h0 nb hb (hf b (List.mem_of_getElem? hb))
  have hR : HpR N hp hp' := ⟨h1, fun i b b' hb hb' => (h2 i b b' hb hb').1⟩
  refine ⟨hp', hR, ⟨hM.below.setCell hcB _, fun b hb => ⟨(hM.kept b hb).1, ?_⟩, fun i b' hi => ?_, fun i j g hi hj => hM.sep i j g (by rwa [place_store hR] at hi) (by rwa [place_store hR] at hj), fun b hb => by rw [setCell_size]; exact hM.stlt b hb, hM.stin, fun b hb hnb => ?_⟩⟩
  · rw [setCell_same fun e => hcs (e ▸ hb)]
    exact (hM.kept b hb).2
  · have hi' := (List.getElem?_eq_some_iff.1 hi).1
    obtain ⟨b, hb⟩ := list_get (l := hp) (j := i) (by rw [← h1]; exact hi')
    obtain ⟨r1, r2⟩ := h2 i b b' hb hi
    cases b with
    | row v0 z0 es0 l0 =>
      obtain ⟨es', rfl, _⟩ := r1
      exact r2 _
    | gone => rw [show b' = _ from r1]; trivial
    | var cs =>
      rw [show b' = _ from r1]
      obtain ⟨g1, g2, rcs, tt, g3, g4, g5⟩ := hM.blk i _ hb
      refine ⟨g1, g2, rcs, tt, by rw [setCell_same fun e => g2 (by rw [e]; exact hst)]; exact g3, g4, fun j v x hv hx => vr_store hN hR (g5 j v x hv hx) (hf _ (List.mem_of_getElem? hb) x (List.mem_of_getElem? hx))⟩
  · by_cases e : b = ad.block
    · subst e
      intro rcs' t' f' hh o ho
      unfold World.cell? at h0
      split at h0 <;> try cases h0
      rename_i rcs t f hh0
      split at h0
      · cases h0
      rename_i hsp
      have hsp' : ad.spot = none := by
        cases hx : ad.spot with
        | none => rfl
        | some _ => rw [hx] at hsp; exact absurd rfl hsp
      rw [setCell_heap hsp' hh0] at hh
      simp only [Option.some.injEq, Obj.cells.injEq] at hh
      obtain ⟨rfl, rfl, rfl⟩ := hh
      exact hM.soft _ hb hnb _ _ _ hh0 o (by simpa using ho)
    · exact (hM.soft b hb hnb).of (setCell_same e)
theorem run_store_one {t : Nat} {i : TI} (hT : TIr P t i) (h1 : i.sz = 1) {ad : Addr} {v0 : Value} (h0 : w.cell? ad = some v0) (hf : w.frozen? ad = false) (k : IntKind) (n : Int) :
    (Instr.storeAt t (.pointer (some ad)) (.int k n)).run P w = .ok () (w.setCell ad (.int k n)) := by
  have ha : ad.add 0 = ad := by unfold Addr.add; simp
  have hs : (store ad (.int k n)).run P w = .ok () (w.setCell ad (.int k n)) := by
    simp [store, Sem.run, h0, hf]
  simp only [Instr.storeAt, Instr.sureAddr, storeVar, Sem.run_bind, Sem.run_pure, Result.andThen_ok, hT.run_size, h1]
  simp [Value.cells, storeCells, ha, hs]
theorem hk2_sound {x : Cx} (E : Env x c) (hsh : ∀ b, c.st b → b < c.B) {l : List I} {s : S} {K : S → Prop} (hK : HK2 x l s K) {ops : Array Oper} {Q : Exit → Act → World → Prop} (ht : trIs c.n ops.toList ops.toList = some l) (hS : Sat c m (lk s.hp) s.tm a w)
    (hQ : ∀ s' a' w' m', K s' → Sat c m' (lk s'.hp) s'.tm a' w' → Q .normal a' w') : wpOps c.P ops Q (List.range' 0 ops.toList.length) a w := by
  obtain ⟨pre, t, p, u, rfl, hK⟩ := hK
  obtain ⟨r1, o, r2, hr, t1, t2, t3⟩ := trIs_split ht
  have hr2 : r2 = [] := by
    cases r2 with
    | nil => rfl
    | cons o2 r2 =>
      simp only [trIs] at t3
      split at t3 <;> simp at t3
  subst hr2
  have hlen : ops.toList.length = r1.length + 1 := by rw [hr]; simp
  have hget : ∀ i, ops[i]? = (r1 ++ [o])[i]? := fun i => by rw [← hr, Array.getElem?_toList]
  have hrng : List.range' 0 ops.toList.length = List.range' 0 r1.length ++ [r1.length] := by
    rw [hlen, ← List.range'_append_1]
    simp
  rw [hrng]
  refine wops_part E (fun s1 a1 w1 m1 hk hS1 => ?_) r1 0 pre s m a w (fun i o' h => by rw [Nat.zero_add, hget, List.getElem?_append_left (List.getElem?_eq_some_iff.1 h).1]; exact h) t1 hS hK
  obtain ⟨N, n0, cs, nb, l2, ks, ⟨i, hti, hi1⟩, hp, hu, hks, hfine, hk⟩ := hk
  have ho : ops[r1.length]? = some o := by rw [hget]; simp
  simp only [wpOps, ho]
  unfold trI at t2
  split at t2 <;> try cases t2
  rename_i hdi
  cases hg : o.guard with
  | some gw =>
    obtain ⟨j, want⟩ := gw
    rw [hg] at t2
    simp only at t2
    split at t2 <;> simp at t2
  | none =>
  rw [hg] at t2
  simp only [Option.some.injEq, I.mk.injEq, and_true] at t2
  obtain ⟨hd1, hop⟩ := t2
  rw [if_pos (by simp [Region.wanted, hg])]
  refine .inl ?_
  obtain ⟨dst, op, ty, pos, after, guard⟩ := o
  simp only at hd1 hop hg
  subst hop
  subst hd1
  have hpv := ev_vr hS1 hp
  have huv := ev_vr hS1 hu
  generalize hpe : a1.eval p = rp at hpv
  generalize hue : a1.eval u = ru at huv
  cases huv with
  | t _ _ _ hru =>
  cases hru
  cases hpv with
  | t _ _ _ hrp =>
  cases hrp with
  | inn _ _ _ _ hrp =>
  cases hrp with
  | pt ad _ vals hB hc hv =>
  obtain ⟨⟨hst, hcB⟩, hN⟩ := hB
  have hcB := hcB rfl
  have hcs : ¬ c.st ad.block := fun h => absurd (hsh _ h) (Nat.not_lt.2 hcB)
  have h0 := hc 0 (by simp)
  have ha0 : ad.add 0 = ad := by unfold Addr.add; simp
  rw [ha0] at h0
  have hfz : w1.frozen? ad = false := by
    have h00 := h0
    unfold World.cell? at h00
    split at h00 <;> try cases h00
    rename_i rcs tt f hh
    split at h00
    · cases h00
    have := hS1.mem.soft _ hst hcs _ _ _ hh ad.off (Array.getElem?_eq_some_iff.1 h00).1
    unfold World.frozen?
    rw [hh]
    obtain ⟨lo, hi⟩ := f
    simp only at this ⊢
    simpa using this
  obtain ⟨hp', hR, M2⟩ := mem_store hS1.mem hN hst hcs hcB h0 nb hfine
  have hrun := run_store_one (P := c.P) (E.ti.ok _ _ hti) hi1 h0 hfz .u8 nb.toNat
  have hex : (execOp a1.eval { dst := none, op := .store t p u, type := ty, pos, after, guard }).run c.P w1 = .ok .skip (w1.setCell ad (.int .u8 nb.toNat)) := by
    simp [execOp, hpe, hue, hrun]
  unfold Oper.wp
  rw [hex]
  refine hQ _ _ _ m1 (hk hp' hR) ⟨M2, hS1.defers, hS1.size, fun t' v ht' => ?_⟩
  have hmem : ∀ (ks : List Nat) (t' : Nat) (v : AV), restr s1.tm ks t' = some v → t' ∈ ks := by
    intro ks
    induction ks with
    | nil => intro t' v h; cases h
    | cons k ks ih =>
      intro t' v h
      simp only [restr, up] at h
      split at h
      · rename_i e; subst e; exact List.mem_cons_self ..
      · exact List.mem_cons_of_mem _ (ih t' v h)
  have hv' := restr_get ks t' v ht'
  obtain ⟨q1, q2⟩ := hS1.tmps t' v hv'
  exact ⟨q1, vr_store hN hR q2 (hks t' (hmem ks t' v ht') v hv')⟩
noncomputable def Xm (P : Program) : Cx := ⟨tiOf P, Spec P, SpecAp P, fun n l s K => match n with
  | 1 => HK1 (Xof P) l s K
  | 2 => HK2 (Xof P) l s K
  | 3 => HK3 (Xof P) l s K
  | _ => False⟩
theorem holdM {P : Program} (hm : P.follows .mixedOrders = true) : Hold P (Xm P) := ⟨tiOf_ok P, fun _ _ _ _ h => h, fun _ _ _ _ h => h, hm, fun c hc hsh n l s K hK ops m a w Q ht hS hQ => by
  subst hc
  have E : Env (Xof c.P) c := ⟨tiOf_ok c.P, fun _ _ _ _ h => h, fun _ _ _ _ h => h, hm, fun _ _ _ _ h => h.elim⟩
  match n with
  | 0 => exact hK.elim
  | 1 => exact hk1_sound E hK ht hS hQ
  | 2 => exact hk2_sound E hsh hK ht hS hQ
  | 3 => exact hk3_sound E hK ht hS hQ
  | n + 4 => exact hK.elim⟩
end
end Go.Proofs.YtgkmhmhbepfiaaaDoor.Pm
set_option linter.all false
namespace Go.Proofs.YtgkmhmhbepfiaaaDoor.Pm
open Go Go.RowKit
theorem Xm_ti (P : Program) : (Xm P).ti = (Xof P).ti := rfl
def mapE (f : T → T) (es : List (List T)) : List (List T) := es.map fun e => e.map f
theorem mapB_row (f : T → T) (ver z : Nat) (es : List (List T)) (l : Bool) : mapB f (.row ver z es l) = .row ver z (mapE f es) l := rfl
theorem mapB_var (f : T → T) (cs : List AV) : mapB f (.var cs) = .var cs := rfl
theorem mapB_gone (f : T → T) : mapB f .gone = .gone := rfl
theorem mapV_t (f : T → T) (x : T) (l : Bool) : mapV f (.t x l) = .t (f x) l := rfl
theorem mapV_nl (f : T → T) : mapV f .nl = .nl := rfl
theorem mapV_e0 (f : T → T) : mapV f .e0 = .e0 := rfl
theorem mapV_row (f : T → T) (id ver off len : Nat) : mapV f (.row id ver off len) = .row id ver off len := rfl
theorem mapV_ptr (f : T → T) (id off : Nat) : mapV f (.ptr id off) = .ptr id off := rfl
theorem mapV_agg (f : T → T) (cs : List AV) : mapV f (.agg cs) = .agg cs := rfl
theorem mapV_tup (f : T → T) (cs : List AV) : mapV f (.tup cs) = .tup cs := rfl
theorem markT_sl (D : Nat → Prop) (es : List (List T)) : markT D (.sl es) = .inn D (.sl es) := rfl
theorem markT_i (D : Nat → Prop) (k : IntKind) (n : Int) : markT D (.i k n) = .i k n := rfl
theorem markT_b (D : Nat → Prop) (x : Bool) : markT D (.b x) = .b x := rfl
theorem markT_s (D : Nat → Prop) (x : ByteArray) : markT D (.s x) = .s x := rfl
theorem markT_agg (D : Nat → Prop) (cs : List T) : markT D (.agg cs) = .agg cs := rfl
theorem markT_inn (D D' : Nat → Prop) (x : T) : markT D (.inn D' x) = .inn D' x := rfl
theorem keepB_nil (kb : List Nat) (i : Nat) : keepB kb i [] = [] := rfl
def keep1 (b : Blk) : Bool → Blk
  | true => b
  | false => .gone
theorem keepB_cons (kb : List Nat) (i : Nat) (b : Blk) (bs : List Blk) : keepB kb i (b :: bs) = keep1 b (inN i kb) :: keepB kb (i + 1) bs := by
  simp only [keepB]
  cases inN i kb <;> rfl
theorem keep1_t (b : Blk) : keep1 b true = b := rfl
theorem keep1_f (b : Blk) : keep1 b false = .gone := rfl
theorem omap_some {α β : Type} (f : α → β) (x : α) : Option.map f (some x) = some (f x) := rfl
attribute [go_sem] Xm_ti gt_mapTm mapB_row mapB_var mapB_gone mapV_t mapV_nl mapV_e0 mapV_row mapV_ptr mapV_agg mapV_tup markT_sl markT_i markT_b markT_s markT_agg markT_inn keepB_nil keepB_cons keep1_t keep1_f omap_some List.map_cons List.map_nil List.cons_append List.nil_append
section
variable {P : Program} {f : Ex → S → Prop} {k : Kont} {s : S} {lf : Lock f}
def HK1a (P : Program) (cl : Call) (d : Nat) (suf : List I) (f : Ex → S → Prop) (k : Kont) (s1 : S) (_ : Lock (f, k, suf, cl)) : Prop :=
    ∃ fo vs g ts0 ts bs r, cl.callee = .value fo ∧ ev s1.tm fo = some (.fn g []) ∧ evs s1.tm cl.args.toList = some vs ∧ argsOK (lk s1.hp) vs ts0 ∧ bares ts0 ts ∧ Spec P g ts bs r ∧ r.fresh = true ∧ bs.all Blk.fresh = true ∧
      ∀ N : Nat, Ok (Xof P) (fun _ s' => Rk (Xm P) f k .n s' .mk) .base suf ⟨up (mapTm (markT (fun b => b < N)) s1.tm) d (some (r.sh s1.hp.length)), s1.hp.map (mapB (markT (fun b => b < N))) ++ bs.map (mapB (markT (fun b => N ≤ b)))⟩ .mk
theorem hk1_k (pre : List I) (d : Nat) (cl : Call) (suf : List I) {l : List I} (hl : l = pre ++ ⟨some d, .call cl, none⟩ :: suf) (h : Ok (Xof P) (fun _ s1 => HK1a P cl d suf f k s1 .mk) .base pre s .mk) : Hk (Xm P) f k 1 l s lf := ⟨pre, d, cl, suf, hl, h⟩
theorem hk1_call {cl : Call} {d : Nat} {suf : List I} {tm : Tm} {hp : List Blk} {lo : Lock (f, k, suf, cl)} {fo : Operand} {vs : List AV} {g : Nat} {ts0 ts : List T} {bs : List Blk} {r : AV} (hs : Spec P g ts bs r)
    (hk : ∀ N : Nat, Ok (Xof P) (fun _ s' => Rk (Xm P) f k .n s' .mk) .base suf ⟨up (mapTm (markT (fun b => b < N)) tm) d (some (r.sh hp.length)), hp.map (mapB (markT (fun b => b < N))) ++ bs.map (mapB (markT (fun b => N ≤ b)))⟩ .mk)
    (hcl : cl.callee = .value fo) (hf : ev tm fo = some (.fn g [])) (hvs : evs tm cl.args.toList = some vs) (ha : argsOK (lk hp) vs ts0) (hb : bares ts0 ts) (hr : r.fresh = true) (hbs : bs.all Blk.fresh = true) : HK1a P cl d suf f k ⟨tm, hp⟩ lo :=
  ⟨fo, vs, g, ts0, ts, bs, r, hcl, hf, hvs, ha, hb, hs, hr, hbs, hk⟩
theorem hk3_k (kb : List Nat) {l : List I} (h : Ok (Xof P) (fun _ s1 => Rk (Xm P) f k .n ⟨s1.tm, keepB kb 0 s1.hp⟩ .mk) .base l s .mk) : Hk (Xm P) f k 3 l s lf := ⟨kb, h⟩
def HK2a (P : Program) (t : Nat) (p u : Operand) (f : Ex → S → Prop) (k : Kont) (s1 : S) (_ : Lock (f, k)) : Prop :=
    ∃ (N : Nat) (n0 : Int) (cs : List T) (b : BitVec 8) (l2 : Bool) (ks : List Nat), (∃ i, (Xof P).ti t = some i ∧ i.sz = 1) ∧ ev s1.tm p = some (.t (.inn (fun b => N ≤ b) (.pt (.i .u8 n0 :: cs))) true) ∧ ev s1.tm u = some (.t (.i .u8 b.toNat) l2) ∧
      (∀ t ∈ ks, ∀ v, gt s1.tm t = some v → safeV N v) ∧ (∀ b ∈ s1.hp, fineB N b) ∧ ∀ hp', HpR N s1.hp hp' → Rk (Xm P) f k .n ⟨restr s1.tm ks, hp'⟩ .mk
theorem hk2_k (pre : List I) (t : Nat) (p u : Operand) {l : List I} (hl : l = pre ++ [⟨none, .store t p u, none⟩]) (h : Ok (Xof P) (fun _ s1 => HK2a P t p u f k s1 .mk) .base pre s .mk) : Hk (Xm P) f k 2 l s lf := ⟨pre, t, p, u, hl, h⟩
theorem hk2_store {t : Nat} {p u : Operand} {tm : Tm} {hp : List Blk} {lo : Lock (f, k)} (N : Nat) {n0 : Int} {cs : List T} {b : BitVec 8} {l2 : Bool} (ks : List Nat) {i : TI} (hti : (Xof P).ti t = some i) (hi : i.sz = 1)
    (hk : ∀ hp', HpR N hp hp' → Rk (Xm P) f k .n ⟨restr tm ks, hp'⟩ .mk)
    (hp1 : ev tm p = some (.t (.inn (fun b => N ≤ b) (.pt (.i .u8 n0 :: cs))) true)) (hu : ev tm u = some (.t (.i .u8 b.toNat) l2)) (hks : ∀ t ∈ ks, ∀ v, gt tm t = some v → safeV N v) (hf : ∀ b ∈ hp, fineB N b) : HK2a P t p u f k ⟨tm, hp⟩ lo :=
  ⟨N, n0, cs, b, l2, ks, ⟨i, hti, hi⟩, hp1, hu, hks, hf, hk⟩
theorem call_m {x : Cx} {d : Option Nat} {tm : Tm} {hp : List Blk} {r : List I} {g : Nat} {asv : List AV} {l : Lock (f, k, tm, r)} (ts0 : List T) {ts : List T} {bs : List Blk} {v : AV} (hs : x.spec g ts bs v)
    (hk : wupk x f (number hp.length bs) k (pt tm d (some (v.sh hp.length))) hp r .mk) (hb : ts0.map T.bare = ts)
    (ha : argsOK (lk hp) asv ts0) (hl : asv.any AV.loose = true → v.fresh = true ∧ bs.all Blk.fresh = true) : wcallk x f k d tm hp r g asv l :=
  ⟨_, _, .plain ts0 ts bs v ha (.inr hb) hs hl, hk⟩
end
theorem HpR_nil {N : Nat} {hp' : List Blk} (h : HpR N [] hp') : hp' = [] := List.length_eq_zero_iff.1 h.1
theorem HpR_cons {N : Nat} {b : Blk} {hp hp' : List Blk} (h : HpR N (b :: hp) hp') : ∃ b' hp'', hp' = b' :: hp'' ∧ BlkR N b b' ∧ HpR N hp hp'' := by
  obtain ⟨h1, h2⟩ := h
  cases hp' with
  | nil => simp at h1
  | cons b' hp'' => exact ⟨b', hp'', rfl, h2 0 b b' rfl rfl, by simpa using h1, fun i x y hx hy => h2 (i + 1) x y (by simpa using hx) (by simpa using hy)⟩
end Go.Proofs.YtgkmhmhbepfiaaaDoor.Pm
set_option linter.all false
set_option maxRecDepth 100000
set_option maxHeartbeats 4000000
namespace Go.Proofs.YtgkmhmhbepfiaaaDoor.Pm
open Go Go.RowKit
theorem head_le {l : List Lnk} (h : headE l = 0) : l.length ≤ 40 := (checkV_inv (headE_0 h).1).1
theorem s_ref44_Add (l : List Lnk) (hl : lnOK l) (d : List (BitVec 8)) : Spec Tryd.prog 39 [.sl (lnT l), .sl (bT d)] [] (.tup [.t (.sl (lnT (addW l d))) true, .t (.i .i64 (addE l d)) true]) := by
  refine spec_k (hold mixed) b_ref44_Add [(.sl (lnT (addW l d)), true), (.i .i64 (addE l d), true)] ?_
  have hh := headV_len hl
  have hH := s_ref44_Head l hl
  unfold addW addE
  simp -implicitDefEqProofs only [go_sem, seval, sk]
  refine call_k hH ?_
  by_cases h0 : headE l = 0
  · have e0 : (headE l != 0) = false := by rw [h0]; rfl
    rw [if_pos h0]
    have hle := head_le h0
    by_cases h1 : l.length < 40
    · have e1 : ((l.length : Int) == 40) = false := by rw [beq_eq_false_iff_ne]; omega
      rw [if_pos h1]
      by_cases h2 : d.length ≤ 200
      · have e2 : ((200 : Int) < (d.length : Int)) = False := eq_false (by omega)
        rw [if_pos h2, if_pos rfl]
        have hst := stepV_len (headV l) l.length (ofV d)
        have hal : addL l d = l ++ [⟨d, stepV (headV l) l.length (ofV d)⟩] := rfl
        have tdk : List.take d.length (bT d) = bT d := List.take_of_length_le (by rw [bT_length]; exact Nat.le_refl _)
        have ov := ofV_len d
        simp -implicitDefEqProofs only [go_sem, seval, sk, bN_map, hh, bC_take hh, e0, e1, e2]
        refine ⟨bC_one _, ?_⟩
        first | refine call_k (s_ref44_Twin l hl (by omega) (data_le (headE_0 h0).1)) ?_ | refine call_d (s_ref44_Twin l hl (by omega) (data_le (headE_0 h0).1)) ?_
        simp -implicitDefEqProofs only [go_sem, seval, sk, bN_map, hh, bC_take hh, bT_length]
        refine ⟨⟨okEs_bT _, by unfold room; omega⟩, ?_⟩
        refine call_d (s_ref44_digest d (by omega)) ?_
        simp -implicitDefEqProofs only [go_sem, seval, sk, bN_map, ov, hh]
        refine call_d (s_ref44_Step (headV l) l.length (ofV d) hh (by omega) ov) ?_
        generalize stepV (headV l) l.length (ofV d) = st at *
        have hrow : lnT l ++ [.sl (bT d) :: bN st] = lnT (addL l d) := by rw [hal, lnT_append]; rfl
        simp -implicitDefEqProofs only [go_sem, seval, sk, bN_map, bC_take hst, hst, embs_bC, lnT_take, hrow, bC_drop hst, tdk]
        refine ⟨⟨okEs_lnT (l := [⟨d, st⟩]) (fun x hx => by rw [List.mem_singleton.1 hx]; exact hst), by unfold room; omega⟩, ?_⟩
        have hlen : (addL l d).length = l.length + 1 := by rw [hal, List.length_append]; rfl
        have ht := lnT_take (addL l d)
        rw [hlen] at ht
        rw [if_pos (by omega), ht]
        exact ⟨rfl, rfl⟩
      · have e2 : ((200 : Int) < (d.length : Int)) = True := eq_true (by omega)
        rw [if_neg h2, if_neg (by decide)]
        simp -implicitDefEqProofs only [go_sem, seval, sk, bN_map, hh, bC_take hh, e0, e1, e2]
        exact ⟨bC_one _, rfl⟩
    · have e1 : ((l.length : Int) == 40) = true := by rw [beq_iff_eq]; omega
      rw [if_neg h1, if_neg (by decide)]
      simp -implicitDefEqProofs only [go_sem, seval, sk, bN_map, hh, bC_take hh, e0, e1]
      exact ⟨bC_one _, rfl⟩
  · have e0 : (headE l != 0) = true := by rw [bne_iff_ne]; exact h0
    rw [if_neg h0, if_neg h0]
    simp -implicitDefEqProofs only [go_sem, seval, sk, bN_map, hh, bC_take hh, e0]
    exact ⟨bC_one _, rfl⟩
theorem s_ref44_Make (all : List (List (BitVec 8))) : Spec Tryd.prog 40 [.sl (catE all)] [] (.tup [.t (.sl (lnT (makeV all))) true, .t (.i .i64 (makeE all)) true]) := by
  refine spec_k (hold mixed) b_ref44_Make [(.sl (lnT (makeV all)), true), (.i .i64 (makeE all), true)] ?_
  by_cases h40 : 40 < all.length
  · have h1 : ((40 : Int) < (all.length : Int)) = True := eq_true (by omega)
    have he : makeE all = 4 := if_pos h40
    rw [show makeV all = [] from if_neg (by rw [he]; decide), he]
    simp -implicitDefEqProofs only [go_sem, seval, sk, catE_length, h1]
    rfl
  · have h1 : ((40 : Int) < (all.length : Int)) = False := eq_false (by omega)
    simp -implicitDefEqProofs only [go_sem, seval, sk, catE_length, h1]
    refine loop_l (α := Nat) (fun k => ⟨tmL [(0, .t (.sl (catE all)) false), (4, .row 0 k 0 k), (5, .t (.i .i64 k) true)], [.row k 33 (lnT (mkL all k)) true]⟩) (fun k => all.length - k) (fun k => k ≤ all.length ∧ ∀ j (hj : j < k) (hj2 : j < all.length), all[j].length ≤ 200) 0 (by simp -implicitDefEqProofs only [go_sem, seval]; rfl) ⟨Nat.zero_le _, fun j hj => by omega⟩ ?_
    rintro k ⟨hk, ha⟩ R hR
    have hml := mkL_len all k
    simp -implicitDefEqProofs only [go_sem, seval, sk, catE_length]
    refine wcond_mk (fun hh => ?_) (fun hh => ?_)
    · have hk' : k < all.length := by have := of_decide_eq_true hh; omega
      simp -implicitDefEqProofs only [go_sem, seval, sk, catE_get hk', catE_length]
      refine wcond_mk (fun hb => ?_) (fun hb => ?_)
      · have hb' : 200 < all[k].length := by have := of_decide_eq_true hb; omega
        have he : makeE all = 8 := by
          unfold makeE
          rw [if_neg h40, if_pos (List.any_eq_true.2 ⟨all[k], List.getElem_mem hk', decide_eq_true hb'⟩)]
        rw [show makeV all = [] from if_neg (by rw [he]; decide), he]
        simp -implicitDefEqProofs only [go_sem, seval, sk]
        rfl
      · have hb' : all[k].length ≤ 200 := by have := of_decide_eq_false hb; omega
        have hb32 := befV_len (mkL_OK all k) k
        have hst := stepV_len (befV (mkL all k) k) k (ofV all[k])
        have hms := mkL_step hk'
        have ov := ofV_len all[k]
        have tdk : List.take all[k].length (bT all[k]) = bT all[k] := List.take_of_length_le (by rw [bT_length]; exact Nat.le_refl _)
        have tml : List.take k (lnT (mkL all k)) = lnT (mkL all k) := List.take_of_length_le (by rw [lnT_length]; omega)
        simp -implicitDefEqProofs only [go_sem, seval, sk, catE_get hk', catE_length, tml]
        refine ⟨⟨okEs_bT _, by unfold room; omega⟩, ?_⟩
        refine call_d (s_ref44_Before (mkL all k) (mkL_OK all k) k (by omega) (by omega)) ?_ (by simp -implicitDefEqProofs only [go_sem, seval, sk, tml, hml])
        simp -implicitDefEqProofs only [go_sem, seval, sk, catE_get hk', catE_length, tml, bN_map]
        refine call_d (s_ref44_digest all[k] (by omega)) ?_
        simp -implicitDefEqProofs only [go_sem, seval, sk, bN_map, ov, hb32]
        refine call_d (s_ref44_Step (befV (mkL all k) k) k (ofV all[k]) hb32 (by omega) ov) ?_
        generalize stepV (befV (mkL all k) k) k (ofV all[k]) = st at *
        simp -implicitDefEqProofs only [go_sem, seval, sk, bN_map, bC_take hst, hst, embs_bC, bC_drop hst, tdk, tml]
        refine ⟨⟨okEs_lnT (l := [⟨all[k], st⟩]) (fun x hx => by rw [List.mem_singleton.1 hx]; exact hst), by omega, by unfold room; omega⟩, hR (k + 1) _ ?_ ⟨by omega, fun j hj hj2 => ?_⟩ (by omega)⟩
        · simp -implicitDefEqProofs only [go_sem, seval, wrap_i64_id (show -9223372036854775808 ≤ (k : Int) + 1 by omega) (by omega), Int.natCast_add]
          rw [hms, lnT_append]
          rfl
        · rcases Nat.lt_or_ge j k with h | h
          · exact ha j h hj2
          · obtain rfl : j = k := by omega
            exact hb'
    · have hk' : k = all.length := by have := of_decide_eq_false hh; omega
      subst hk'
      have hs : smallL all := fun j hj => ha j hj hj
      have he : makeE all = 0 := by
        unfold makeE
        rw [if_neg h40, if_neg]
        intro h
        obtain ⟨x, hx, hx2⟩ := List.any_eq_true.1 h
        obtain ⟨j, hj, rfl⟩ := List.getElem_of_mem hx
        have := hs j hj
        have := of_decide_eq_true hx2
        omega
      rw [show makeV all = mkL all all.length from if_pos he, he]
      simp -implicitDefEqProofs only [go_sem, seval, sk]
      have ht := lnT_take (mkL all all.length)
      rw [hml] at ht
      rw [if_pos (by omega), ht]
      exact ⟨rfl, rfl⟩
end Go.Proofs.YtgkmhmhbepfiaaaDoor.Pm
set_option linter.all false
set_option maxRecDepth 100000
set_option maxHeartbeats 4000000
namespace Go.Proofs.YtgkmhmhbepfiaaaDoor.Pm
open Go Go.RowKit
def lnM (D : Nat → Prop) (l : List Lnk) : List (List T) := l.map fun x => .inn D (.sl (bT x.data)) :: bN x.sum
theorem lnM_length (D : Nat → Prop) (l : List Lnk) : (lnM D l).length = l.length := by simp [lnM]
theorem lnM_get {D : Nat → Prop} {l : List Lnk} {k : Nat} (h : k < l.length) : (lnM D l)[k]? = some (.inn D (.sl (bT l[k].data)) :: bN l[k].sum) := by simp [lnM, h]
theorem bN_mark (D : Nat → Prop) (ws : List (BitVec 8)) : (bN ws).map (markT D) = bN ws := by
  unfold bN
  rw [List.map_map]
  rfl
theorem mapE_lnT (D : Nat → Prop) (l : List Lnk) : mapE (markT D) (lnT l) = lnM D l := by
  unfold mapE lnT lnM
  rw [List.map_map]
  refine List.map_congr_left fun x _ => ?_
  simp only [Function.comp, Lnk.E, List.map_cons, markT, bN_mark]
theorem bN_bare (ws : List (BitVec 8)) : (bN ws).map T.bare1 = bN ws := by
  unfold bN
  rw [List.map_map]
  rfl
theorem bare_lnM (D : Nat → Prop) (l : List Lnk) : T.bare (.sl (lnM D l)) = .sl (lnT l) := by
  simp only [T.bare, T.sl.injEq]
  unfold lnM lnT
  rw [List.map_map]
  refine List.map_congr_left fun x _ => ?_
  simp only [Function.comp, Lnk.E, List.map_cons, T.bare1, bN_bare]
theorem bare_lnT (l : List Lnk) : T.bare (.sl (lnT l)) = .sl (lnT l) := by
  simp only [T.bare, T.sl.injEq]
  unfold lnT
  rw [List.map_map]
  refine List.map_congr_left fun x _ => ?_
  simp only [Function.comp, Lnk.E, List.map_cons, T.bare1, bN_bare]
theorem bare_inn (D : Nat → Prop) (x : T) : T.bare (.inn D x) = x := rfl
theorem take_lnM (D : Nat → Prop) (l : List Lnk) : List.take l.length (lnM D l) = lnM D l := List.take_of_length_le (by rw [lnM_length]; exact Nat.le_refl _)
theorem ne_sides {N : Nat} (h : (fun b => N ≤ b) = (fun b => b < N)) : False := by
  have := congrFun h N
  simp at this
theorem bN_safe {N : Nat} {ws : List (BitVec 8)} {c : T} (h : c ∈ bN ws) : ∃ k n, c = .i k n := by
  unfold bN at h
  simp only [List.mem_map] at h
  obtain ⟨b, _, rfl⟩ := h
  exact ⟨_, _, rfl⟩
theorem fine_lnM {N : Nat} {D : Nat → Prop} (hD : D = (fun b => b < N) ∨ D = (fun b => N ≤ b)) (l : List Lnk) (ver z : Nat) (f : Bool) : fineB N (.row ver z (lnM D l) f) := by
  intro e he c hc
  unfold lnM at he
  simp only [List.mem_map] at he
  obtain ⟨x, _, rfl⟩ := he
  rcases List.mem_cons.1 hc with rfl | hc
  · rcases hD with rfl | rfl
    · exact .inl rfl
    · exact .inr ⟨_, rfl⟩
  · obtain ⟨k, n, rfl⟩ := bN_safe (N := N) hc
    exact .inl rfl
theorem cellR_i {N : Nat} {k : IntKind} {n : Int} {c' : T} (h : cellR N (.i k n) c') : c' = .i k n := by
  rcases h with ⟨_, h⟩ | ⟨_, _, h, _⟩
  · exact h
  · cases h
theorem cellR_low {N : Nat} {x c' : T} (h : cellR N (.inn (fun b => b < N) x) c') : c' = .inn (fun b => b < N) x := by
  rcases h with ⟨_, h⟩ | ⟨bs, _, h, _⟩
  · exact h
  · simp only [T.inn.injEq] at h
    exact (ne_sides h.1.symm).elim
theorem bT_inj {a b : List (BitVec 8)} (h : bT a = bT b) : a = b := by
  unfold bT at h
  refine (List.map_inj_right (fun x y e => ?_)).1 h
  simp only [List.cons.injEq, T.i.injEq, true_and, and_true] at e
  exact BitVec.eq_of_toNat_eq (by exact_mod_cast e)
theorem cellR_high {N : Nat} {x : List (BitVec 8)} {c' : T} (h : cellR N (.inn (fun b => N ≤ b) (.sl (bT x))) c') : ∃ y, c' = .inn (fun b => N ≤ b) (.sl (bT y)) ∧ y.length = x.length := by
  rcases h with ⟨h, _⟩ | ⟨bs, bs', h, rfl, hl⟩
  · exact (ne_sides h).elim
  · simp only [T.inn.injEq, T.sl.injEq, true_and] at h
    rw [bT_inj h]
    exact ⟨bs', rfl, hl⟩
theorem row_sums {N : Nat} {ws : List (BitVec 8)} {e' : List T} (hl : e'.length = ws.length) (h : ∀ (j : Nat) (c c' : T), (bN ws)[j]? = some c → e'[j]? = some c' → cellR N c c') : e' = bN ws := by
  refine List.ext_getElem? fun j => ?_
  rcases Nat.lt_or_ge j ws.length with hj | hj
  · obtain ⟨c, hc⟩ := list_get (l := bN ws) (j := j) (by simpa [bN] using hj)
    obtain ⟨c', hc'⟩ := list_get (l := e') (j := j) (by omega)
    obtain ⟨k, n, rfl⟩ := bN_safe (N := N) (List.mem_of_getElem? hc)
    rw [hc, hc', cellR_i (h j _ _ hc hc')]
  · rw [List.getElem?_eq_none (by omega), List.getElem?_eq_none (by simpa [bN] using hj)]
theorem esR_low {N : Nat} {l : List Lnk} {es' : List (List T)} (h : EsR N (lnM (fun b => b < N) l) es') : es' = lnM (fun b => b < N) l := by
  obtain ⟨h1, h2⟩ := h
  rw [lnM_length] at h1
  refine List.ext_getElem? fun i => ?_
  rcases Nat.lt_or_ge i l.length with hi | hi
  · obtain ⟨e', he'⟩ := list_get (l := es') (j := i) (by omega)
    have he := lnM_get (D := fun b => b < N) hi
    obtain ⟨q1, q2⟩ := h2 i _ e' he he'
    rw [he, he']
    cases e' with
    | nil => simp at q1
    | cons c e' =>
      rw [cellR_low (q2 0 _ c rfl rfl)]
      rw [row_sums (N := N) (ws := l[i].sum) (e' := e') (by simpa [bN] using q1) fun j c c' hc hc' => q2 (j + 1) c c' (by simpa using hc) (by simpa using hc')]
  · rw [List.getElem?_eq_none (by omega), List.getElem?_eq_none (by rw [lnM_length]; omega)]
def likeL (a b : List Lnk) : Prop := b.length = a.length ∧ ∀ k (h : k < a.length) (h' : k < b.length), b[k].sum = a[k].sum ∧ b[k].data.length = a[k].data.length
theorem likeL.refl (a : List Lnk) : likeL a a := ⟨rfl, fun _ _ _ => ⟨rfl, rfl⟩⟩
theorem likeL.trans {a b c : List Lnk} (h : likeL a b) (h' : likeL b c) : likeL a c := ⟨h'.1.trans h.1, fun k h1 h2 => by
  have hb : k < b.length := by rw [h.1]; exact h1
  exact ⟨((h'.2 k hb h2).1).trans (h.2 k h1 hb).1, ((h'.2 k hb h2).2).trans (h.2 k h1 hb).2⟩⟩
theorem esR_high {N : Nat} {l : List Lnk} {es' : List (List T)} (h : EsR N (lnM (fun b => N ≤ b) l) es') : ∃ l', es' = lnM (fun b => N ≤ b) l' ∧ likeL l l' := by
  obtain ⟨h1, h2⟩ := h
  rw [lnM_length] at h1
  obtain ⟨l', k1, k2⟩ := list_pick l (fun i x (x' : Lnk) => es'[i]? = some (.inn (fun b => N ≤ b) (.sl (bT x'.data)) :: bN x'.sum) ∧ x'.sum = x.sum ∧ x'.data.length = x.data.length) (fun i x hx => by
    have hi := (List.getElem?_eq_some_iff.1 hx).1
    have hxe := (List.getElem?_eq_some_iff.1 hx).2
    obtain ⟨e', he'⟩ := list_get (l := es') (j := i) (by omega)
    have he := lnM_get (D := fun b => N ≤ b) hi
    rw [hxe] at he
    obtain ⟨q1, q2⟩ := h2 i _ e' he he'
    cases e' with
    | nil => simp at q1
    | cons c e' =>
      obtain ⟨y, rfl, hy⟩ := cellR_high (q2 0 _ c rfl rfl)
      have := row_sums (N := N) (ws := x.sum) (e' := e') (by simpa [bN] using q1) fun j c c' hc hc' => q2 (j + 1) c c' (by simpa using hc) (by simpa using hc')
      refine ⟨⟨y, x.sum⟩, ?_, rfl, hy⟩
      rw [he', this])
  refine ⟨l', ?_, k1, fun k h h' => ?_⟩
  · refine List.ext_getElem? fun i => ?_
    rcases Nat.lt_or_ge i l.length with hi | hi
    · rw [(k2 i l[i] (l'[i]'(by omega)) (List.getElem?_eq_getElem hi) (List.getElem?_eq_getElem (by omega))).1, lnM_get (by omega)]
    · rw [List.getElem?_eq_none (by omega), List.getElem?_eq_none (by rw [lnM_length]; omega)]
  · exact (k2 k l[k] l'[k] (List.getElem?_eq_getElem h) (List.getElem?_eq_getElem h')).2
end Go.Proofs.YtgkmhmhbepfiaaaDoor.Pm
