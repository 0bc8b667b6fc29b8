/- Texts of this proof in one file: PmMk, PmMs, PmMl, PmMt. No law of Go's is stated here. -/
import Derived.Test.YtgkmhmhbepfiaaaDoorPmMc
set_option linter.all false
namespace Go.Proofs.YtgkmhmhbepfiaaaDoor.Pm
open Go Go.RowKit
def markT (D : Nat → Prop) : T → T
  | .sl es => .inn D (.sl es)
  | x => x
def mapV (f : T → T) : AV → AV
  | .t x l => .t (f x) l
  | v => v
def mapB (f : T → T) : Blk → Blk
  | .row ver z es l => .row ver z (es.map fun e => e.map f) l
  | b => b
def mapTm (f : T → T) (tm : Tm) : Tm := fun t => (tm t).map (mapV f)
theorem gt_mapTm (f : T → T) (tm : Tm) (t : Nat) : gt (mapTm f tm) t = (gt tm t).map (mapV f) := rfl
def mapH (f : T → T) (h : H) : H := fun i => (h i).map (mapB f)
theorem lk_map (f : T → T) (hp : List Blk) : lk (hp.map (mapB f)) = mapH f (lk hp) := by
  funext i
  simp [lk, mapH]
section
variable {P : Program} {w w' : World} {c : Ct} {m m' m1 : Mp} {h h' h1 : H} {ti : Nat → Option TI} {tm : Tm} {a : Act}
theorem rep_mark {D B : Nat → Prop} {v : Value} {x : T} (hr : Rep w B v x) (hD : ∀ b, B b → D b) : Rep w B v (markT D x) := by
  cases x <;> try exact hr
  refine .inn D v _ ?_ (hr.mono (fun b hb => ⟨hb, hD b hb⟩) (fun _ _ => rfl))
  cases hr; rfl
theorem rowOf_map (f : T → T) (h : H) (id ver : Nat) : rowOf (mapH f h) id ver = (rowOf h id ver).map fun r => (r.1, r.2.1.map (fun e => e.map f), r.2.2) := by
  unfold rowOf mapH
  cases h id with
  | none => rfl
  | some b =>
    cases b <;> simp only [Option.map_some, mapB] <;> try rfl
    split <;> rfl
theorem place_map (f : T → T) (m : Mp) (h : H) (id : Nat) : place m (mapH f h) id = place m h id := by
  unfold place mapH
  cases h id with
  | none => rfl
  | some b => cases b <;> rfl
theorem Mem.recell (hM : Mem c m h w) (f : T → T) (hf : ∀ id ver z es l, h id = some (.row ver z es l) → ∀ v x, Rep w (m.ok c.B l) v x → Rep w (m.ok c.B l) v (f x)) : Ext m h w m (mapH f h) w ∧ Mem c m (mapH f h) w := by
  have he : Ext m h w m (mapH f h) w := by
    refine ⟨fun id hid => by
      obtain ⟨b, hb⟩ := Option.isSome_iff_exists.1 hid
      unfold mapH
      rw [hb]
      rfl, fun _ _ => rfl, fun id v' z es l hid hh => ?_, fun id ver z es l hid hver hh => ?_, fun _ h => h, fun _ _ => rfl⟩
    · unfold mapH at hh
      cases hb : h id with
      | none => rw [hb] at hh; cases hh
      | some b =>
        rw [hb] at hh
        cases b <;> simp only [Option.map_some, mapB, Option.some.injEq, Blk.row.injEq, reduceCtorEq] at hh
        obtain ⟨rfl, rfl, rfl, rfl⟩ := hh
        exact ⟨_, _, _, _, rfl, Nat.le_refl _⟩
    · rw [rowOf_map] at hh
      simp only [Option.map_eq_some_iff] at hh
      obtain ⟨⟨z0, es0, l0⟩, h0, h1⟩ := hh
      simp only [Prod.mk.injEq] at h1
      obtain ⟨rfl, rfl, rfl⟩ := h1
      exact ⟨⟨es0, _, h0⟩, rfl⟩
  refine ⟨he, ⟨hM.below, hM.kept, fun id b hid => ?_, fun i j g hi hj => hM.sep i j g (by rwa [place_map] at hi) (by rwa [place_map] at hj), hM.stlt, hM.stin, hM.soft, fun b hb => ⟨(hM.res b hb).1, (hM.res b hb).2.1, fun i hi => (hM.res b hb).2.2.1 i (by rwa [place_map] at hi), (hM.res b hb).2.2.2⟩⟩⟩
  unfold mapH at hid
  cases hb : h id with
  | none => rw [hb] at hid; cases hid
  | some b0 =>
    rw [hb] at hid
    simp only [Option.map_some, Option.some.injEq] at hid
    subst hid
    have h0 := hM.blk id b0 hb
    cases b0 with
    | var cs => exact h0.keep he rfl rfl fun g hg => ⟨(hM.placed hb hg).2.2, rfl⟩
    | gone => trivial
    | row ver z es l =>
      obtain ⟨b1, b2, b3, b4⟩ := h0
      refine ⟨by simpa using b1, by simpa using b2, fun i e he' => ?_, fun hpos => ?_⟩
      · rw [List.getElem?_map] at he'
        simp only [Option.map_eq_some_iff] at he'
        obtain ⟨e0, he0, rfl⟩ := he'
        simpa using b3 i e0 he0
      · obtain ⟨g1, g2, rcs, tt, g3, g4, g5⟩ := b4 hpos
        refine ⟨g1, g2, rcs, tt, g3, g4, fun i j e x he' hx => ?_⟩
        rw [List.getElem?_map] at he'
        simp only [Option.map_eq_some_iff] at he'
        obtain ⟨e0, he0, rfl⟩ := he'
        rw [List.getElem?_map] at hx
        simp only [Option.map_eq_some_iff] at hx
        obtain ⟨x0, hx0, rfl⟩ := hx
        obtain ⟨v, hv1, hv2⟩ := g5 i j e0 x0 he0 hx0
        exact ⟨v, hv1, hf _ _ _ _ _ hb _ _ hv2⟩
theorem Sat.recell {hp : List Blk} (hS : Sat c m (lk hp) tm a w) (f : T → T) (hf : ∀ l v x, Rep w (m.ok c.B l) v x → Rep w (m.ok c.B l) v (f x)) : Sat c m (lk (hp.map (mapB f))) (mapTm f tm) a w := by
  obtain ⟨e1, M1⟩ := hS.mem.recell f (fun _ _ _ _ l _ v x => hf l v x)
  rw [lk_map]
  refine ⟨M1, hS.defers, hS.size, fun t v ht => ?_⟩
  simp only [mapTm, Option.map_eq_some_iff] at ht
  obtain ⟨u, hu, rfl⟩ := ht
  obtain ⟨h2, h3⟩ := hS.tmps t u hu
  refine ⟨h2, ?_⟩
  have h4 := h3.mono e1
  generalize a.tmps.getD t undef = rv at h4
  cases u <;> try exact h4
  cases h4 with
  | t _ _ _ hr => exact .t _ _ _ (hf _ _ _ hr)
theorem wops_part {x : Cx} (E : Env x c) {ops : Array Oper} {K : S → Prop} {Q : Exit → Act → World → Prop} {rest : List Nat} (hn : ∀ s' a' w' m', K s' → Sat c m' (lk s'.hp) s'.tm a' w' → wpOps c.P ops Q rest a' w') :
    ∀ (r : List Oper) (k : Nat) (l : List I) (s : S) (m : Mp) (a : Act) (w : World), (∀ i o, r[i]? = some o → ops[k + i]? = some o) → trIs c.n ops.toList r = some l → Sat c m (lk s.hp) s.tm a w → wops x l s K → wpOps c.P ops Q (List.range' k r.length ++ rest) a w
  | [], k, l, s, m, a, w, hd, ht, hS, hK => by
    simp [trIs] at ht
    subst ht
    exact hn _ _ _ _ hK hS
  | o :: r, k, l, s, m, a, w, hd, ht, hS, hK => by
    simp only [trIs] at ht
    split at ht <;> simp only [Option.some.injEq, reduceCtorEq] at ht
    rename_i i is hi his
    subst ht
    have hget : ops[k]? = some o := hd 0 o rfl
    have hd' : ∀ i o, r[i]? = some o → ops[k + 1 + i]? = some o := fun i o' h => by
      have := hd (i + 1) o' (by simpa using h)
      rwa [show k + (i + 1) = k + 1 + i by omega] at this
    have ih := fun s m a w => wops_part E hn r (k + 1) is s m a w hd' his
    simp only [List.length_cons, List.range'_succ, List.cons_append, wpOps, hget]
    unfold trI at hi
    split at hi <;> try cases hi
    rename_i hdi
    have hdst := dstIn_spec hdi
    cases hg : o.guard with
    | none =>
      rw [hg] at hi
      simp only [Option.some.injEq] at hi
      subst hi
      simp only [wops] at hK
      rw [if_pos (by simp [Region.wanted, hg])]
      exact .inl (wex_sound E hS hdst rfl rfl hK fun s' a' w' m' hk hS' => ih s' m' a' w' hS' hk)
    | some gw =>
      obtain ⟨j, want⟩ := gw
      rw [hg] at hi
      simp only at hi
      split at hi <;> simp only [Option.some.injEq, reduceCtorEq] at hi
      rename_i t ht
      subst hi
      simp only [wops] at hK
      have hput : ∀ m a w, Sat c m (lk s.hp) s.tm a w → Sat c m (lk s.hp) (pt s.tm o.dst (some (.tup []))) (a.put o.dst undef) w := fun m a w h => h.put o.dst hdst (.tup #[] [] rfl (by simp))
      split at hK <;> try exact hK.elim
      rotate_left
      · rename_i hy
        obtain ⟨rv, hrv, hvr⟩ := tmps_get hS hy
        have hyv : yielded ops a.tmps j = none := by
          unfold dstAt at ht
          have ht' : (ops[j]?).bind (·.dst) = some t := by simpa using ht
          unfold yielded
          rw [ht']
          simp only [Option.bind_some, hrv]
          cases hvr
          rfl
        have hw : Region.wanted o (yielded ops a.tmps) = false := by
          unfold Region.wanted
          rw [hg]
          simp only [hyv]
          rfl
        rw [hw]
        exact ih ⟨_, _⟩ m _ w (hput m a w hS) hK
      rename_i y lb hy
      obtain ⟨rv, hrv, hvr⟩ := tmps_get hS hy
      have hyv : yielded ops a.tmps j = some y := by
        unfold dstAt at ht
        have ht' : (ops[j]?).bind (·.dst) = some t := by simpa using ht
        unfold yielded
        rw [ht']
        simp only [Option.bind_some, hrv]
        cases hvr with
        | t _ _ _ hr => cases hr; rfl
      have hw : Region.wanted o (yielded ops a.tmps) = (y == want) := by
        unfold Region.wanted
        rw [hg]
        simp only [hyv]
        cases y <;> cases want <;> rfl
      rw [hw]
      cases hb : (y == want) with
      | true => exact .inl (wex_sound E hS hdst rfl rfl (hK.1 hb) fun s' a' w' m' hk hS' => ih s' m' a' w' hS' hk)
      | false => exact ih ⟨_, _⟩ m _ w (hput m a w hS) (hK.2 hb)
theorem trIs_split {n : Nat} {ops : List Oper} : ∀ {pre : List I} {i : I} {suf : List I} {r : List Oper}, trIs n ops r = some (pre ++ i :: suf) → ∃ r1 o r2, r = r1 ++ o :: r2 ∧ trIs n ops r1 = some pre ∧ trI n ops o = some i ∧ trIs n ops r2 = some suf
  | [], i, suf, [], h => by simp [trIs] at h
  | _ :: _, i, suf, [], h => by simp [trIs] at h
  | pre, i, suf, o :: r, h => by
    simp only [trIs] at h
    split at h <;> simp only [Option.some.injEq, reduceCtorEq] at h
    rename_i i0 is hi his
    cases pre with
    | nil =>
      simp only [List.nil_append, List.cons.injEq] at h
      obtain ⟨rfl, rfl⟩ := h
      exact ⟨[], o, r, rfl, rfl, hi, his⟩
    | cons p pre =>
      simp only [List.cons_append, List.cons.injEq] at h
      obtain ⟨rfl, rfl⟩ := h
      obtain ⟨r1, o', r2, rfl, h1, h2, h3⟩ := trIs_split his
      exact ⟨o :: r1, o', r2, rfl, by simp [trIs, hi, h1], h2, h3⟩
def keepB (kb : List Nat) : Nat → List Blk → List Blk
  | _, [] => []
  | i, b :: bs => (match inN i kb with | true => b | false => .gone) :: keepB kb (i + 1) bs
theorem keepB_get (kb : List Nat) : ∀ (bs : List Blk) (k i : Nat), (keepB kb k bs)[i]? = (bs[i]?).map fun b => match inN (k + i) kb with | true => b | false => .gone
  | [], k, i => by simp [keepB]
  | b :: bs, k, i => by
    cases i with
    | zero => simp [keepB]
    | succ i =>
      simp only [keepB, List.getElem?_cons_succ]
      rw [keepB_get kb bs (k + 1) i, show k + 1 + i = k + (i + 1) by omega]
theorem Sat.keepB {hp : List Blk} (hS : Sat c m (lk hp) tm a w) (kb : List Nat) : Sat c m (lk (keepB kb 0 hp)) tm a w := by
  have hlk : ∀ i, lk (Pm.keepB kb 0 hp) i = (lk hp i).map fun b => match inN i kb with | true => b | false => .gone := fun i => by
    unfold lk
    rw [keepB_get, Nat.zero_add]
  have hrow : ∀ i v z es l, lk (Pm.keepB kb 0 hp) i = some (.row v z es l) → lk hp i = some (.row v z es l) := fun i v z es l hh => by
    rw [hlk] at hh
    simp only [Option.map_eq_some_iff] at hh
    obtain ⟨b, h1, h2⟩ := hh
    split at h2
    · rw [h1, h2]
    · cases h2
  have hrw : ∀ id ver r, rowOf (lk (Pm.keepB kb 0 hp)) id ver = some r → rowOf (lk hp) id ver = some r := fun id ver r hh => by
    obtain ⟨z, es, l⟩ := r
    have := hrow _ _ _ _ _ (rowOf_some hh)
    simp [rowOf, this]
  have he : Ext m (lk hp) w m (lk (Pm.keepB kb 0 hp)) w := ⟨fun id hid => by rw [hlk]; simpa using hid, fun _ _ => rfl, fun id v' z es l _ hh => ⟨v', z, es, l, hrow _ _ _ _ _ hh, Nat.le_refl _⟩, fun id ver z es l _ _ hh => ⟨⟨es, l, hrw _ _ _ hh⟩, rfl⟩, fun _ h => h, fun _ _ => rfl⟩
  have hpl : ∀ i g, place m (lk (Pm.keepB kb 0 hp)) i = some g → place m (lk hp) i = some g := fun i g hg => by
    unfold place at hg ⊢
    rw [hlk] at hg
    cases hb : lk hp i with
    | none => rw [hb] at hg; cases hg
    | some b =>
      rw [hb] at hg
      simp only [Option.map_some] at hg
      split at hg
      · exact hg
      · cases hg
  refine hS.of_mem he ⟨hS.mem.below, hS.mem.kept, fun i b hi => ?_, fun i j g hi hj => hS.mem.sep i j g (hpl i g hi) (hpl j g hj), hS.mem.stlt, hS.mem.stin, hS.mem.soft, fun b hb => ⟨(hS.mem.res b hb).1, (hS.mem.res b hb).2.1, fun i hi => (hS.mem.res b hb).2.2.1 i (hpl i b hi), (hS.mem.res b hb).2.2.2⟩⟩
  rw [hlk] at hi
  simp only [Option.map_eq_some_iff] at hi
  obtain ⟨b0, hb0, hb1⟩ := hi
  split at hb1
  · subst hb1
    exact (hS.mem.blk i b0 hb0).keep he rfl rfl fun g hg => ⟨(hS.mem.placed hb0 hg).2.2, rfl⟩
  · subst hb1; trivial
theorem upds_number : ∀ (bs hp : List Blk), upds hp (number hp.length bs) = hp ++ bs
  | [], hp => by simp [number, upds]
  | b :: bs, hp => by
    have := upds_number bs (hp ++ [b])
    simp only [List.length_append, List.length_singleton] at this
    simp only [number, upds, upd1, Nat.lt_irrefl, if_false]
    rw [this]
    simp
def HK1 (x : Cx) (l : List I) (s : S) (K : S → Prop) : Prop :=
  ∃ pre d cl suf, l = pre ++ ⟨some d, .call cl, none⟩ :: suf ∧ wops x pre s fun s1 =>
    ∃ f vs g ts0 ts bs r, cl.callee = .value f ∧ ev s1.tm f = some (.fn g []) ∧ evs s1.tm cl.args.toList = some vs ∧ argsOK (lk s1.hp) vs ts0 ∧ bares ts0 ts ∧ x.spec g ts bs r ∧ r.fresh = true ∧ bs.all Blk.fresh = true ∧
      ∀ D : Nat → Prop, wops x suf ⟨up (mapTm (markT fun b => ¬ D b) s1.tm) d (some (r.sh s1.hp.length)), s1.hp.map (mapB (markT fun b => ¬ D b)) ++ bs.map (mapB (markT D))⟩ K
def HK3 (x : Cx) (l : List I) (s : S) (K : S → Prop) : Prop := ∃ kb, wops x l s fun s1 => K ⟨s1.tm, keepB kb 0 s1.hp⟩
end
end Go.Proofs.YtgkmhmhbepfiaaaDoor.Pm
set_option linter.all false
namespace Go.Proofs.YtgkmhmhbepfiaaaDoor.Pm
open Go Go.RowKit
def safeT (D : Nat → Prop) : T → Prop
  | .inn D' _ => D' = fun b => ¬ D b
  | x => x.flat = true
def safeV (D : Nat → Prop) : AV → Prop
  | .t x _ => safeT D x
  | .nl | .e0 | .row .. | .vs .. | .ptr .. | .eptr .. => True
  | _ => False
def cellR (D : Nat → Prop) (c c' : T) : Prop := (safeT D c ∧ c' = c) ∨ ∃ bs bs' : List (BitVec 8), c = .inn D (.sl (bT bs)) ∧ c' = .inn D (.sl (bT bs')) ∧ bs'.length = bs.length
def fineT (D : Nat → Prop) (c : T) : Prop := safeT D c ∨ ∃ bs : List (BitVec 8), c = .inn D (.sl (bT bs))
def EsR (D : Nat → Prop) (es es' : List (List T)) : Prop := es'.length = es.length ∧ ∀ (i : Nat) (e e' : List T), es[i]? = some e → es'[i]? = some e' → e'.length = e.length ∧ ∀ (j : Nat) (c c' : T), e[j]? = some c → e'[j]? = some c' → cellR D c c'
def fineB (D : Nat → Prop) : Blk → Prop
  | .row _ _ es _ => ∀ e ∈ es, ∀ c ∈ e, fineT D c
  | .var cs => ∀ v ∈ cs, safeV D v
  | .gone => True
def BlkR (D : Nat → Prop) : Blk → Blk → Prop
  | .row ver z es l, b' => ∃ es', b' = .row ver z es' l ∧ EsR D es es'
  | b, b' => b' = b
def HpR (D : Nat → Prop) (hp hp' : List Blk) : Prop := hp'.length = hp.length ∧ ∀ (i : Nat) (b b' : Blk), hp[i]? = some b → hp'[i]? = some b' → BlkR D b b'
def HK2 (x : Cx) (l : List I) (s : S) (K : S → Prop) : Prop :=
  ∃ pre t p u, l = pre ++ [⟨none, .store t p u, none⟩] ∧ wops x pre s fun s1 =>
    ∃ (D : Nat → Prop) (n0 : Int) (cs : List T) (b : BitVec 8) (l2 : Bool) (ks : List Nat), (∃ i, x.ti t = some i ∧ i.sz = 1) ∧ ev s1.tm p = some (.t (.inn D (.pt (.i .u8 n0 :: cs))) true) ∧ ev s1.tm u = some (.t (.i .u8 b.toNat) l2) ∧
      (∀ t ∈ ks, ∀ v, gt s1.tm t = some v → safeV D v) ∧ (∀ b ∈ s1.hp, fineB D b) ∧ ∀ hp', HpR D s1.hp hp' → K ⟨restr s1.tm ks, hp'⟩
theorem list_pick {α β : Type} : ∀ (l : List α) (R : Nat → α → β → Prop), (∀ (i : Nat) (a : α), l[i]? = some a → ∃ b, R i a b) → ∃ l' : List β, l'.length = l.length ∧ ∀ (i : Nat) (a : α) (b : β), l[i]? = some a → l'[i]? = some b → R i a b
  | [], R, _ => ⟨[], rfl, by simp⟩
  | a :: l, R, h => by
    obtain ⟨b, hb⟩ := h 0 a rfl
    obtain ⟨l', h1, h2⟩ := list_pick l (fun i => R (i + 1)) (fun i a ha => h (i + 1) a (by simpa using ha))
    refine ⟨b :: l', by simp [h1], fun i x y hx hy => ?_⟩
    cases i with
    | zero => simp at hx hy; subst hx; subst hy; exact hb
    | succ i => exact h2 i x y (by simpa using hx) (by simpa using hy)
section
variable {P : Program} {w w' : World} {c : Ct} {m m' m1 : Mp} {h h' h1 : H} {ti : Nat → Option TI} {tm : Tm} {a : Act}
theorem setCell_same {w : World} {ad : Addr} {v : Value} {k : Nat} (hk : k ≠ ad.block) : (w.setCell ad v).heap[k]? = w.heap[k]? := Below.heap_setCell w ad v k hk
theorem setCell_heap {w : World} {ad : Addr} {v : Value} {rcs : Array Value} {t : Nat} {f : Nat × Nat} (hs : ad.spot = none) (hh : w.heap[ad.block]? = some (.cells rcs t f)) : (w.setCell ad v).heap[ad.block]? = some (.cells (rcs.setIfInBounds ad.off v) t f) := by
  unfold World.setCell
  simp only [Array.getElem?_modify, if_true, hh, Option.map_some, hs]
  rfl
theorem setCell_size (w : World) (ad : Addr) (v : Value) : (w.setCell ad v).heap.size = w.heap.size := by
  unfold World.setCell
  simp
theorem setCell_cell {w : World} {ad : Addr} {v v0 : Value} (h0 : w.cell? ad = some v0) {a' : Addr} {u : Value} (hu : w.cell? a' = some u) : (w.setCell ad v).cell? a' = some u ∨ (w.setCell ad v).cell? a' = some v := by
  by_cases hb : a'.block = ad.block
  · unfold World.cell? at h0
    split at h0 <;> try cases h0
    rename_i rcs t f hh
    split at h0
    · cases h0
    rename_i hsp
    have hsp' : ad.spot = none := by
      cases hx : ad.spot with
      | none => rfl
      | some _ => rw [hx] at hsp; exact absurd rfl hsp
    have hh' := setCell_heap (v := v) hsp' hh
    unfold World.cell? at hu ⊢
    rw [hb] at hu ⊢
    rw [hh] at hu
    rw [hh']
    simp only at hu ⊢
    split at hu
    · cases hu
    rename_i hsa
    rw [if_neg hsa]
    by_cases ho : a'.off = ad.off
    · right
      rw [ho] at hu ⊢
      have := (Array.getElem?_eq_some_iff.1 hu).1
      simp [this]
    · left
      rw [Array.getElem?_setIfInBounds_ne (Ne.symm ho)]
      exact hu
  · left
    rw [← hu]
    exact cell_block (setCell_same hb)
theorem rep_low {D : Nat → Prop} {ad : Addr} (hN : D ad.block) {u : Value} {B : Nat → Prop} {v : Value} {x : T} (hr : Rep w (fun b => B b ∧ ¬ D b) v x) : Rep (w.setCell ad u) (fun b => B b ∧ ¬ D b) v x :=
  hr.mono (fun _ h => h) (fun b hb => setCell_same fun e => by subst e; exact hb.2 hN)
theorem rep_safe {D : Nat → Prop} {ad : Addr} (hN : D ad.block) {u : Value} {B : Nat → Prop} {v : Value} {x : T} (hx : safeT D x) (hr : Rep w B v x) : Rep (w.setCell ad u) B v x := by
  cases x
  all_goals try (simp [safeT, T.flat] at hx; done)
  case i k n => cases hr; exact .i _ _
  case b y => cases hr; exact .b _
  case s y => cases hr; exact .s _
  case inn D' y =>
    obtain rfl : D' = fun b => ¬ D b := hx
    cases hr with | inn _ _ _ h1 hr => exact .inn _ _ _ h1 (rep_low hN hr)
theorem bTr_get {bs : List (BitVec 8)} {i j : Nat} {e : List T} {x : T} (he : (bT bs)[i]? = some e) (hx : e[j]? = some x) : j = 0 ∧ ∃ b, bs[i]? = some b ∧ x = .i .u8 b.toNat := by
  unfold bT at he
  rw [List.getElem?_map] at he
  simp only [Option.map_eq_some_iff] at he
  obtain ⟨b, hb, rfl⟩ := he
  cases j with
  | zero => simp at hx; exact ⟨rfl, b, hb, hx.symm⟩
  | succ j => simp at hx
theorem rep_bytes {ad : Addr} {v0 : Value} (h0 : w.cell? ad = some v0) (nb : BitVec 8) {B : Nat → Prop} {v : Value} {bs : List (BitVec 8)} (hr : Rep w B v (.sl (bT bs))) :
    ∃ bs' : List (BitVec 8), bs'.length = bs.length ∧ Rep (w.setCell ad (.int .u8 nb.toNat)) B v (.sl (bT bs')) := by
  cases hr with
  | sl A n cc _ z vals hn hc hm hz0 hz hA hv =>
    have hlen : bs.length = n := by simpa [bT] using hn
    rcases Nat.eq_zero_or_pos n with hn0 | hpos
    · subst hn0
      obtain rfl : bs = [] := List.length_eq_zero_iff.1 hlen
      exact ⟨[], rfl, .sl A _ cc _ z vals hn hc hm hz0 hz (fun h => absurd h (Nat.lt_irrefl _)) (fun i j e x he => by simp [bT] at he)⟩
    obtain ⟨ad0, rfl, hB, hcell⟩ := hA hpos
    have hz1 : z = 1 := by
      have := hz 0 [.i .u8 (bs[0]'(by omega)).toNat] (by unfold bT; rw [List.getElem?_map, List.getElem?_eq_getElem (by omega)]; rfl)
      simpa using this.symm
    subst hz1
    obtain ⟨bs', hl', hp⟩ := list_pick bs (fun i b b' => (w.setCell ad (.int .u8 nb.toNat)).cell? (ad0.add (i * 1 + 0)) = some (.int .u8 (b' : BitVec 8).toNat)) (fun i b hb => by
      have hi := (List.getElem?_eq_some_iff.1 hb).1
      have h1 := hcell i 0 (by omega) (by omega)
      have h2 := hv i 0 [.i .u8 b.toNat] (.i .u8 b.toNat) (by unfold bT; rw [List.getElem?_map, hb]; rfl) rfl
      generalize hvv : vals i 0 = vv at h1 h2
      cases h2
      rcases setCell_cell (v := .int .u8 nb.toNat) h0 h1 with h3 | h3
      · exact ⟨b, h3⟩
      · exact ⟨nb, h3⟩)
    refine ⟨bs', hl', .sl _ n cc _ 1 (fun i _ => ((w.setCell ad (.int .u8 nb.toNat)).cell? (ad0.add (i * 1 + 0))).getD undef) (by simp [bT]; omega) hc hm hz0 (fun i e he => ?_) (fun _ => ⟨ad0, rfl, hB, fun i j hi hj => ?_⟩) fun i j e x he hx => ?_⟩
    · unfold bT at he
      rw [List.getElem?_map] at he
      simp only [Option.map_eq_some_iff] at he
      obtain ⟨b, hb, rfl⟩ := he
      rfl
    · obtain rfl : j = 0 := by omega
      have h1 := hcell i 0 hi hj
      rcases setCell_cell (v := .int .u8 nb.toNat) h0 h1 with h3 | h3
      · rw [h3]; rfl
      · rw [h3]; rfl
    · obtain ⟨rfl, b', hb', rfl⟩ := bTr_get he hx
      have hi : i < bs.length := by have := (List.getElem?_eq_some_iff.1 hb').1; omega
      have := hp i bs[i] b' (List.getElem?_eq_getElem hi) hb'
      simp only [this, Option.getD_some]
      exact .i _ _
theorem rep_cell {D : Nat → Prop} {ad : Addr} (hN : D ad.block) {v0 : Value} (h0 : w.cell? ad = some v0) (nb : BitVec 8) {B : Nat → Prop} {v : Value} {x : T} (hx : fineT D x) (hr : Rep w B v x) :
    ∃ x', cellR D x x' ∧ Rep (w.setCell ad (.int .u8 nb.toNat)) B v x' := by
  rcases hx with hx | ⟨bs, rfl⟩
  · exact ⟨x, .inl ⟨hx, rfl⟩, rep_safe hN hx hr⟩
  · cases hr with
    | inn _ _ _ h1 hr =>
      obtain ⟨bs', hl, hr'⟩ := rep_bytes h0 nb hr
      exact ⟨_, .inr ⟨bs, bs', rfl, rfl, hl⟩, .inn _ _ _ h1 hr'⟩
def RowOK (m : Mp) (B : Nat) (w : World) (id : Nat) : Blk → Prop
  | .row v z es l => ∀ h, BlkOK m B h w id (.row v z es l)
  | _ => True
theorem blk_store (hM : Mem c m h w) {D : Nat → Prop} {ad : Addr} (hN : D ad.block) (hst : m.st ad.block) {v0 : Value} (h0 : w.cell? ad = some v0) (nb : BitVec 8) {id : Nat} {b : Blk} (hb : h id = some b) (hf : fineB D b) :
    ∃ b', BlkR D b b' ∧ RowOK m c.B (w.setCell ad (.int .u8 nb.toNat)) id b' := by
  cases b with
  | gone => exact ⟨.gone, rfl, trivial⟩
  | var cs => exact ⟨.var cs, rfl, trivial⟩
  | row ver z es l =>
    obtain ⟨b1, b2, b3, b4⟩ := hM.blk id _ hb
    have hcells : ∃ es', EsR D es es' ∧ (0 < (m.ψ id).2 → ∀ rcs tt, w.heap[(m.ψ id).1]? = some (.cells rcs tt (0, 0)) → ∀ (i j : Nat) (e : List T) (x : T), es'[i]? = some e → e[j]? = some x → ∃ v, rcs[i * z + j]? = some v ∧ Rep (w.setCell ad (.int .u8 nb.toNat)) (m.ok c.B l) v x) := by
      have key : ∀ (i : Nat) (e : List T), es[i]? = some e → ∃ e' : List T, e'.length = e.length ∧ ∀ (j : Nat) (y y' : T), e[j]? = some y → e'[j]? = some y' → cellR D y y' ∧ (0 < (m.ψ id).2 → ∀ rcs tt, w.heap[(m.ψ id).1]? = some (.cells rcs tt (0, 0)) → ∃ v, rcs[i * z + j]? = some v ∧ Rep (w.setCell ad (.int .u8 nb.toNat)) (m.ok c.B l) v y') := fun i e he => by
        refine list_pick e (fun j y y' => cellR D y y' ∧ (0 < (m.ψ id).2 → ∀ rcs tt, w.heap[(m.ψ id).1]? = some (.cells rcs tt (0, 0)) → ∃ v, rcs[i * z + j]? = some v ∧ Rep (w.setCell ad (.int .u8 nb.toNat)) (m.ok c.B l) v y')) fun j y hy => ?_
        have hfy := hf e (List.mem_of_getElem? he) y (List.mem_of_getElem? hy)
        have hpos : 0 < (m.ψ id).2 := by have := (List.getElem?_eq_some_iff.1 he).1; omega
        obtain ⟨g1, g2, rcs, tt, g3, g4, g5⟩ := b4 hpos
        obtain ⟨v, hv1, hv2⟩ := g5 i j e y he hy
        obtain ⟨y', hy1, hy2⟩ := rep_cell hN h0 nb hfy hv2
        refine ⟨y', hy1, fun _ rcs' tt' hh => ?_⟩
        rw [g3] at hh
        simp only [Option.some.injEq, Obj.cells.injEq] at hh
        obtain ⟨rfl, _⟩ := hh
        exact ⟨v, hv1, hy2⟩
      obtain ⟨es', k1, k2⟩ := list_pick es (fun (i : Nat) (e e' : List T) => e'.length = e.length ∧ ∀ (j : Nat) (y y' : T), e[j]? = some y → e'[j]? = some y' → cellR D y y' ∧ (0 < (m.ψ id).2 → ∀ rcs tt, w.heap[(m.ψ id).1]? = some (.cells rcs tt (0, 0)) → ∃ v, rcs[i * z + j]? = some v ∧ Rep (w.setCell ad (.int .u8 nb.toNat)) (m.ok c.B l) v y')) key
      refine ⟨es', ⟨k1, fun i e e' he he' => ⟨(k2 i e e' he he').1, fun j y y' hy hy' => ((k2 i e e' he he').2 j y y' hy hy').1⟩⟩, fun hpos rcs tt hh i j e' x he' hx => ?_⟩
      have hi : i < es.length := by have := (List.getElem?_eq_some_iff.1 he').1; omega
      obtain ⟨e, he⟩ := list_get (l := es) (j := i) hi
      obtain ⟨q1, q2⟩ := k2 i e e' he he'
      have hj : j < e.length := by have := (List.getElem?_eq_some_iff.1 hx).1; omega
      obtain ⟨y, hy⟩ := list_get (l := e) (j := j) hj
      exact (q2 j y x hy hx).2 hpos rcs tt hh
    obtain ⟨es', k1, k2⟩ := hcells
    refine ⟨.row ver z es' l, ⟨es', rfl, k1⟩, fun h'' => ⟨by rw [k1.1]; exact b1, by rw [k1.1]; exact b2, fun i e' he' => ?_, fun hpos => ?_⟩⟩
    · have hi : i < es.length := by have := (List.getElem?_eq_some_iff.1 he').1; rw [← k1.1]; exact this
      obtain ⟨e, he⟩ := list_get (l := es) (j := i) hi
      rw [(k1.2 i e e' he he').1]
      exact b3 i e he
    · obtain ⟨g1, g2, rcs, tt, g3, g4, g5⟩ := b4 hpos
      refine ⟨g1, g2, rcs, tt, ?_, g4, fun i j e x he hx => k2 hpos rcs tt g3 i j e x he hx⟩
      rw [setCell_same (fun e => g2 (by rw [e]; exact hst))]
      exact g3
theorem vr_store {D : Nat → Prop} {ad : Addr} (hN : D ad.block) {u : Value} {hp hp' : List Blk} (hR : HpR D hp hp') {B : Nat} {rv : Value} {v : AV} (hv : VR m B (lk hp) w rv v) (hs : safeV D v) : VR m B (lk hp') (w.setCell ad u) rv v := by
  have hk : ∀ id, (lk hp id).isSome = true → (lk hp' id).isSome = true := fun id h => by
    unfold lk at h ⊢
    have h1 : id < hp.length := by simpa using h
    simp [hR.1, h1]
  have hrow : ∀ id v z es l, lk hp' id = some (.row v z es l) → ∃ es0, lk hp id = some (.row v z es0 l) := fun id v z es l h => by
    unfold lk at h ⊢
    have h1 := (List.getElem?_eq_some_iff.1 h).1
    obtain ⟨b, hb⟩ := list_get (l := hp) (j := id) (by rw [← hR.1]; exact h1)
    have := hR.2 id b _ hb h
    cases b with
    | row v0 z0 es0 l0 =>
      obtain ⟨es', e1, _⟩ := this
      simp only [Blk.row.injEq] at e1
      obtain ⟨rfl, rfl, rfl, rfl⟩ := e1
      exact ⟨es0, hb⟩
    | var cs => cases this
    | gone => cases this
  have hro : ∀ id ver z es l, rowOf (lk hp') id ver = some (z, es, l) → ∃ es0, rowOf (lk hp) id ver = some (z, es0, l) := fun id ver z es l h => by
    obtain ⟨es0, h0⟩ := hrow _ _ _ _ _ (rowOf_some h)
    exact ⟨es0, by simp [rowOf, h0]⟩
  have hver : ∀ id ver, verOK (lk hp) id ver → verOK (lk hp') id ver := fun id ver h v' z es l hh => by
    obtain ⟨es0, h0⟩ := hrow _ _ _ _ _ hh
    exact h _ _ _ _ h0
  cases hv with
  | t _ x l hr => exact .t _ _ _ (rep_safe hN hs hr)
  | nl => exact .nl
  | e0 A => exact .e0 A
  | row id ver off len k A hid hv hc hr =>
    refine .row id ver off len k A (hk _ hid) (hver _ _ hv) hc fun z es l h => ?_
    obtain ⟨es0, h0⟩ := hro _ _ _ _ _ h
    exact hr _ _ _ h0
  | vs id off len z k A hid hc hA => exact .vs id off len z k A (hk _ hid) hc hA
  | ptr id off hid => exact .ptr id off (hk _ hid)
  | eptr id ver i j x hid hv hr =>
    refine .eptr id ver i j x (hk _ hid) (hver _ _ hv) fun z es l h => ?_
    obtain ⟨es0, h0⟩ := hro _ _ _ _ _ h
    exact hr _ _ _ h0
  | fn => exact hs.elim
  | agg => exact hs.elim
  | tup => exact hs.elim
theorem place_store {D : Nat → Prop} {hp hp' : List Blk} (hR : HpR D hp hp') (i : Nat) : place m (lk hp') i = place m (lk hp) i := by
  unfold place lk
  rcases Nat.lt_or_ge i hp.length with h1 | h1
  · obtain ⟨b, hb⟩ := list_get (l := hp) (j := i) h1
    obtain ⟨b', hb'⟩ := list_get (l := hp') (j := i) (by rw [hR.1]; exact h1)
    rw [hb, hb']
    have := hR.2 i b b' hb hb'
    cases b with
    | row v0 z0 es0 l0 =>
      obtain ⟨es', rfl, _⟩ := this
      rfl
    | var cs => rw [show b' = _ from this]
    | gone => rw [show b' = _ from this]
  · rw [List.getElem?_eq_none h1, List.getElem?_eq_none (by rw [hR.1]; exact h1)]
theorem mem_store {hp : List Blk} (hM : Mem c m (lk hp) w) {D : Nat → Prop} {ad : Addr} (hN : D ad.block) (hst : m.st ad.block) (hcs : ¬ c.st ad.block) (hcB : c.B ≤ ad.block) {v0 : Value} (h0 : w.cell? ad = some v0) (nb : BitVec 8) (hf : ∀ b ∈ hp, fineB D b) :
    ∃ hp', HpR D hp hp' ∧ Mem c m (lk hp') (w.setCell ad (.int .u8 nb.toNat)) := by
  obtain ⟨hp', h1, h2⟩ := list_pick hp (fun i b b' => BlkR D b b' ∧ RowOK m c.B (w.setCell ad (.int .u8 nb.toNat)) i b') fun i b hb => blk_store hM hN hst h0 nb hb (hf b (List.mem_of_getElem? hb))
  have hR : HpR D hp hp' := ⟨h1, fun i b b' hb hb' => (h2 i b b' hb hb').1⟩
  refine ⟨hp', hR, ⟨hM.below.setCell hcB _, fun b hb => ⟨(hM.kept b hb).1, ?_⟩, fun i b' hi => ?_, fun i j g hi hj => hM.sep i j g (by rwa [place_store hR] at hi) (by rwa [place_store hR] at hj), fun b hb => by rw [setCell_size]; exact hM.stlt b hb, hM.stin, fun b hb hnb => ?_, fun b hb => ⟨by rw [setCell_size]; exact (hM.res b hb).1, (hM.res b hb).2.1, fun i hi => (hM.res b hb).2.2.1 i (by rwa [place_store hR] at hi), (setCell_same fun e => (hM.res b hb).2.1 (by rw [e]; exact hst)).trans (hM.res b hb).2.2.2⟩⟩⟩
  · rw [setCell_same fun e => hcs (e ▸ hb)]
    exact (hM.kept b hb).2
  · have hi' := (List.getElem?_eq_some_iff.1 hi).1
    obtain ⟨b, hb⟩ := list_get (l := hp) (j := i) (by rw [← h1]; exact hi')
    obtain ⟨r1, r2⟩ := h2 i b b' hb hi
    cases b with
    | row v0 z0 es0 l0 =>
      obtain ⟨es', rfl, _⟩ := r1
      exact r2 _
    | gone => rw [show b' = _ from r1]; trivial
    | var cs =>
      rw [show b' = _ from r1]
      obtain ⟨g1, g2, rcs, tt, g3, g4, g5⟩ := hM.blk i _ hb
      refine ⟨g1, g2, rcs, tt, by rw [setCell_same fun e => g2 (by rw [e]; exact hst)]; exact g3, g4, fun j v x hv hx => vr_store hN hR (g5 j v x hv hx) (hf _ (List.mem_of_getElem? hb) x (List.mem_of_getElem? hx))⟩
  · by_cases e : b = ad.block
    · subst e
      intro rcs' t' f' hh o ho
      unfold World.cell? at h0
      split at h0 <;> try cases h0
      rename_i rcs t f hh0
      split at h0
      · cases h0
      rename_i hsp
      have hsp' : ad.spot = none := by
        cases hx : ad.spot with
        | none => rfl
        | some _ => rw [hx] at hsp; exact absurd rfl hsp
      rw [setCell_heap hsp' hh0] at hh
      simp only [Option.some.injEq, Obj.cells.injEq] at hh
      obtain ⟨rfl, rfl, rfl⟩ := hh
      exact hM.soft _ hb hnb _ _ _ hh0 o (by simpa using ho)
    · exact (hM.soft b hb hnb).of (setCell_same e)
theorem run_store_one {t : Nat} {i : TI} (hT : TIr P t i) (h1 : i.sz = 1) {ad : Addr} {v0 : Value} (h0 : w.cell? ad = some v0) (hf : w.frozen? ad = false) (k : IntKind) (n : Int) :
    (Instr.storeAt t (.pointer (some ad)) (.int k n)).run P w = .ok () (w.setCell ad (.int k n)) := by
  have ha : ad.add 0 = ad := by unfold Addr.add; simp
  have hs : (store ad (.int k n)).run P w = .ok () (w.setCell ad (.int k n)) := by
    simp [store, Sem.run, h0, hf]
  simp only [Instr.storeAt, Instr.sureAddr, storeVar, Sem.run_bind, Sem.run_pure, Result.andThen_ok, hT.run_size, h1]
  simp [Value.cells, storeCells, ha, hs]
theorem hk2_sound {x : Cx} (E : Env x c) (hsh : ∀ b, c.st b → b < c.B) {l : List I} {s : S} {K : S → Prop} (hK : HK2 x l s K) {ops : Array Oper} {Q : Exit → Act → World → Prop} (ht : trIs c.n ops.toList ops.toList = some l) (hS : Sat c m (lk s.hp) s.tm a w)
    (hQ : ∀ s' a' w' m', K s' → Sat c m' (lk s'.hp) s'.tm a' w' → Q .normal a' w') : wpOps c.P ops Q (List.range' 0 ops.toList.length) a w := by
  obtain ⟨pre, t, p, u, rfl, hK⟩ := hK
  obtain ⟨r1, o, r2, hr, t1, t2, t3⟩ := trIs_split ht
  have hr2 : r2 = [] := by
    cases r2 with
    | nil => rfl
    | cons o2 r2 =>
      simp only [trIs] at t3
      split at t3 <;> simp at t3
  subst hr2
  have hlen : ops.toList.length = r1.length + 1 := by rw [hr]; simp
  have hget : ∀ i, ops[i]? = (r1 ++ [o])[i]? := fun i => by rw [← hr, Array.getElem?_toList]
  have hrng : List.range' 0 ops.toList.length = List.range' 0 r1.length ++ [r1.length] := by
    rw [hlen, ← List.range'_append_1]
    simp
  rw [hrng]
  refine wops_part E (fun s1 a1 w1 m1 hk hS1 => ?_) r1 0 pre s m a w (fun i o' h => by rw [Nat.zero_add, hget, List.getElem?_append_left (List.getElem?_eq_some_iff.1 h).1]; exact h) t1 hS hK
  obtain ⟨D, n0, cs, nb, l2, ks, ⟨i, hti, hi1⟩, hp, hu, hks, hfine, hk⟩ := hk
  have ho : ops[r1.length]? = some o := by rw [hget]; simp
  simp only [wpOps, ho]
  unfold trI at t2
  split at t2 <;> try cases t2
  rename_i hdi
  cases hg : o.guard with
  | some gw =>
    obtain ⟨j, want⟩ := gw
    rw [hg] at t2
    simp only at t2
    split at t2 <;> simp at t2
  | none =>
  rw [hg] at t2
  simp only [Option.some.injEq, I.mk.injEq, and_true] at t2
  obtain ⟨hd1, hop⟩ := t2
  rw [if_pos (by simp [Region.wanted, hg])]
  refine .inl ?_
  obtain ⟨dst, op, ty, pos, after, guard⟩ := o
  simp only at hd1 hop hg
  subst hop
  subst hd1
  have hpv := ev_vr hS1 hp
  have huv := ev_vr hS1 hu
  generalize hpe : a1.eval p = rp at hpv
  generalize hue : a1.eval u = ru at huv
  cases huv with
  | t _ _ _ hru =>
  cases hru
  cases hpv with
  | t _ _ _ hrp =>
  cases hrp with
  | inn _ _ _ _ hrp =>
  cases hrp with
  | pt ad _ vals hB hc hv =>
  obtain ⟨⟨hst, hcB⟩, hN⟩ := hB
  have hcB := hcB rfl
  have hcs : ¬ c.st ad.block := fun h => absurd (hsh _ h) (Nat.not_lt.2 hcB)
  have h0 := hc 0 (by simp)
  have ha0 : ad.add 0 = ad := by unfold Addr.add; simp
  rw [ha0] at h0
  have hfz : w1.frozen? ad = false := by
    have h00 := h0
    unfold World.cell? at h00
    split at h00 <;> try cases h00
    rename_i rcs tt f hh
    split at h00
    · cases h00
    have := hS1.mem.soft _ hst hcs _ _ _ hh ad.off (Array.getElem?_eq_some_iff.1 h00).1
    unfold World.frozen?
    rw [hh]
    obtain ⟨lo, hi⟩ := f
    simp only at this ⊢
    simpa using this
  obtain ⟨hp', hR, M2⟩ := mem_store hS1.mem hN hst hcs hcB h0 nb hfine
  have hrun := run_store_one (P := c.P) (E.ti.ok _ _ hti) hi1 h0 hfz .u8 nb.toNat
  have hex : (execOp a1.eval { dst := none, op := .store t p u, type := ty, pos, after, guard }).run c.P w1 = .ok .skip (w1.setCell ad (.int .u8 nb.toNat)) := by
    simp [execOp, hpe, hue, hrun]
  unfold Oper.wp
  rw [hex]
  refine hQ _ _ _ m1 (hk hp' hR) ⟨M2, hS1.defers, hS1.size, fun t' v ht' => ?_⟩
  have hmem : ∀ (ks : List Nat) (t' : Nat) (v : AV), restr s1.tm ks t' = some v → t' ∈ ks := by
    intro ks
    induction ks with
    | nil => intro t' v h; cases h
    | cons k ks ih =>
      intro t' v h
      simp only [restr, up] at h
      split at h
      · rename_i e; subst e; exact List.mem_cons_self ..
      · exact List.mem_cons_of_mem _ (ih t' v h)
  have hv' := restr_get ks t' v ht'
  obtain ⟨q1, q2⟩ := hS1.tmps t' v hv'
  exact ⟨q1, vr_store hN hR q2 (hks t' (hmem ks t' v ht') v hv')⟩
noncomputable def Xm (P : Program) : Cx := ⟨tiOf P, Spec P, SpecAp P, fun n l s K => match n with
  | 1 => HK1 (Xof P) l s K
  | 2 => HK2 (Xof P) l s K
  | 3 => HK3 (Xof P) l s K
  | _ => False, fun _ _ _ _ _ _ => False⟩
end
end Go.Proofs.YtgkmhmhbepfiaaaDoor.Pm
set_option linter.all false
namespace Go.Proofs.YtgkmhmhbepfiaaaDoor.Pm
open Go Go.RowKit
def splitE (D : Nat → Prop) (k : Nat) (es : List (List T)) : List (List T) := (es.take k).map (fun e => e.map (markT fun b => ¬ D b)) ++ (es.drop k).map (fun e => e.map (markT D))
def okSw (N : Nat) : AV → Prop
  | .t x _ => x.flat = true ∨ ∃ y, x = .inn (fun b => b < N) y
  | .row .. => True
  | _ => False
def elsTo (el : Nat → List T) (i : Nat) : List (List T) := (List.range i).map el
def HL (P : Program) (N : Nat) (ad : List (Nat × Nat)) (mk : List Nat) (C : C) (K : Ex → S → Prop) (s : S) : Prop :=
  ∃ (z n k ex : Nat) (el : Nat → List T) (tmF : Nat → Tm) (tmX : Tm), k ≤ n ∧ (∀ i, i < n → (el i).length = z ∧ ∀ x ∈ el i, x.one) ∧
    hdL ad mk (adopt ad s) (adopt ad s) = ⟨tmF 0, [.row 0 z [] true]⟩ ∧
    (∀ i, i < n → ∀ es : List (List T), es.length = i → ∀ R : S → Prop, (∀ s', hdL ad mk (adopt ad s) s' = ⟨tmF (i + 1), [.row (i + 1) z (es ++ [el i]) true]⟩ → R s') →
      W (Xof P) C (fun e s' => match e with | .n => R s' | _ => False) ⟨tmF i, [.row i z es true]⟩) ∧
    (∀ es : List (List T), es.length = n → ∀ R : S → Prop, R ⟨tmX, [.row n z es true]⟩ → W (Xof P) C (fun e s' => e = .x ex ∧ R s') ⟨tmF n, [.row n z es true]⟩) ∧
    (∀ i t v, tmF i t = some v → okSw N v) ∧ (∀ t v, tmX t = some v → okSw N v) ∧
    ∀ D : Nat → Prop, (∀ b, D b → N ≤ b) → K (.x ex) ⟨tmX, [.row n z (splitE D k (elsTo el n)) true]⟩
section
variable {P : Program} {w w' : World} {c : Ct} {m m' m1 : Mp} {h h' h1 : H} {ti : Nat → Option TI} {tm : Tm} {a : Act}
theorem elsTo_length (el : Nat → List T) (i : Nat) : (elsTo el i).length = i := by simp [elsTo]
theorem elsTo_succ (el : Nat → List T) (i : Nat) : elsTo el (i + 1) = elsTo el i ++ [el i] := by simp [elsTo, List.range_succ]
theorem elsTo_get {el : Nat → List T} {n i : Nat} (h : i < n) : (elsTo el n)[i]? = some (el i) := by simp [elsTo, h]
structure Ph (c : Ct) (z k : Nat) (el : Nat → List T) (es' : List (List T)) (wk : World) (mk : Mp) : Prop where
  soft : ∀ b, mk.st b → ¬ c.st b → softB wk b
  lt : ∀ b, mk.st b → b < wk.heap.size
  len : es'.length = k
  elz : ∀ i, i < k → (el i).length = z
  cells : ∀ (i : Nat) (e' : List T), es'[i]? = some e' → e'.length = z ∧ ∀ (j : Nat) (x' : T), e'[j]? = some x' → ∃ v x, x' = .val v ∧ (el i)[j]? = some x ∧ Rep wk (mk.ok c.B true) v x
def cOf (c : Ct) (wk : World) (mk : Mp) : Ct := ⟨c.P, c.w0, c.st, c.n, c.B, c.hB, c.hG, fun b => mk.st b ∧ c.B ≤ b, wk⟩
theorem vr_sw {st' : Nat → Prop} {ver z : Nat} {es es' : List (List T)} {N : Nat} (hN : ∀ b, m.st b → b < N → st' b) {rv : Value} {v : AV} {B : Nat} (hv : VR m B (lk [.row ver z es true]) w rv v) (ho : okSw N v) : VR { m with st := st' } B (lk [.row ver z es' true]) w rv v := by
  cases hv with
  | t _ x l hr =>
    refine .t _ _ _ ?_
    rcases ho with hf | ⟨y, rfl⟩
    · cases x <;> first | (simp [T.flat] at hf; done) | skip
      · cases hr; exact .i _ _
      · cases hr; exact .b _
      · cases hr; exact .s _
    · cases hr with
      | inn _ _ _ h1 hr => exact .inn _ _ _ h1 (hr.mono (fun b hb => ⟨⟨hN b hb.1.1 hb.2, hb.1.2⟩, hb.2⟩) (fun _ _ => rfl))
  | row id vr off len cc A hid hver hc hr =>
    have hid0 : id = 0 := by
      cases id with
      | zero => rfl
      | succ id => simp [lk] at hid
    subst hid0
    refine .row 0 vr off len cc A (by simp [lk]) (fun v' z' es0 l0 hh => ?_) hc fun z' es0 l0 hrow => ?_
    · simp [lk] at hh
      exact hver v' z es true (by simp [lk]; exact hh.1)
    · have h1 := rowOf_some hrow
      simp [lk] at h1
      exact hr z' es true (by simp [rowOf, lk, h1.1, h1.2.1])
  | nl => exact ho.elim
  | e0 => exact ho.elim
  | vs => exact ho.elim
  | ptr => exact ho.elim
  | eptr => exact ho.elim
  | fn => exact ho.elim
  | agg => exact ho.elim
  | tup => exact ho.elim
theorem place_row {ver z : Nat} {es es' : List (List T)} {l l' : Bool} {st' : Nat → Prop} (i : Nat) : place { m with st := st' } (lk [.row ver z es' l']) i = place m (lk [.row ver z es l]) i := by
  cases i <;> rfl
theorem switch_in (hsh : ∀ b, c.st b → b < c.B) (hR : ∀ b, ¬ c.R b) {z k : Nat} {el : Nat → List T} (hel : ∀ i, i < k → (el i).length = z ∧ ∀ x ∈ el i, x.one) (hok : ∀ t v, tm t = some v → okSw c.B v) (hS : Sat c m (lk [.row k z (elsTo el k) true]) tm a w) :
    ∃ es', Ph c z k el es' w m ∧ ∃ m', Sat (cOf c w m) m' (lk [.row k z es' true]) tm a w := by
  have hM := hS.mem
  obtain ⟨b1, b2, b3, b4⟩ := hM.blk 0 (.row k z (elsTo el k) true) rfl
  have hcell : ∃ es' : List (List T), es'.length = k ∧ ∀ (i : Nat) (e e' : List T), (elsTo el k)[i]? = some e → es'[i]? = some e' → e'.length = e.length ∧ ∀ (j : Nat) (x x' : T), e[j]? = some x → e'[j]? = some x' →
      ∃ v, x' = .val v ∧ Rep w (m.ok c.B true) v x ∧ v.oneCell' = true ∧ ∀ rcs tt, w.heap[(m.ψ 0).1]? = some (.cells rcs tt (0, 0)) → rcs[i * z + j]? = some v := by
    obtain ⟨es', q1, q2⟩ := list_pick (elsTo el k) (fun i e (e' : List T) => e'.length = e.length ∧ ∀ (j : Nat) (x x' : T), e[j]? = some x → e'[j]? = some x' →
      ∃ v, x' = .val v ∧ Rep w (m.ok c.B true) v x ∧ v.oneCell' = true ∧ ∀ rcs tt, w.heap[(m.ψ 0).1]? = some (.cells rcs tt (0, 0)) → rcs[i * z + j]? = some v) (fun i e he => by
      have hi : i < k := by have := (List.getElem?_eq_some_iff.1 he).1; rwa [elsTo_length] at this
      have he2 := he
      rw [elsTo_get hi] at he2
      simp only [Option.some.injEq] at he2
      subst he2
      refine list_pick (el i) (fun j x (x' : T) => ∃ v, x' = .val v ∧ Rep w (m.ok c.B true) v x ∧ v.oneCell' = true ∧ ∀ rcs tt, w.heap[(m.ψ 0).1]? = some (.cells rcs tt (0, 0)) → rcs[i * z + j]? = some v) fun j x hx => ?_
      have hpos : 0 < (m.ψ 0).2 := by rw [elsTo_length] at b1; omega
      obtain ⟨g1, g2, rcs, tt, g3, g4, g5⟩ := b4 hpos
      obtain ⟨v, hv1, hv2⟩ := g5 i j _ x he hx
      refine ⟨.val v, v, rfl, hv2, one_of_rep hv2 ((hel i hi).2 x (List.mem_of_getElem? hx)), fun rcs' tt' hh => ?_⟩
      rw [g3] at hh
      simp only [Option.some.injEq, Obj.cells.injEq] at hh
      obtain ⟨rfl, _⟩ := hh
      exact hv1)
    exact ⟨es', by rw [q1, elsTo_length], q2⟩
  obtain ⟨es', q1, q2⟩ := hcell
  have hel' : ∀ (i : Nat) (e' : List T), es'[i]? = some e' → i < k ∧ e'.length = z ∧ ∀ (j : Nat) (x' : T), e'[j]? = some x' → ∃ v x, x' = .val v ∧ (el i)[j]? = some x ∧ Rep w (m.ok c.B true) v x ∧ v.oneCell' = true ∧ ∀ rcs tt, w.heap[(m.ψ 0).1]? = some (.cells rcs tt (0, 0)) → rcs[i * z + j]? = some v := fun i e' he' => by
    have hi : i < k := by have := (List.getElem?_eq_some_iff.1 he').1; omega
    obtain ⟨p1, p2⟩ := q2 i _ e' (elsTo_get hi) he'
    refine ⟨hi, by rw [p1]; exact (hel i hi).1, fun j x' hx' => ?_⟩
    have hj : j < (el i).length := by have := (List.getElem?_eq_some_iff.1 hx').1; omega
    obtain ⟨x, hx⟩ := list_get (l := el i) (j := j) hj
    obtain ⟨v, h1, h2, h3, h4⟩ := p2 j x x' hx hx'
    exact ⟨v, x, h1, hx, h2, h3, h4⟩
  refine ⟨es', ⟨hM.soft, hM.stlt, q1, fun i hi => (hel i hi).1, fun i e' he' => ⟨(hel' i e' he').2.1, fun j x' hx' => ?_⟩⟩, { m with st := c.st }, ⟨⟨hM.below, fun b hb => ⟨hb, (hM.kept b hb).2⟩, fun i b hi => ?_, fun i j g hi hj => hM.sep i j g (by rwa [place_row (m := m) (es := elsTo el k) (l := true)] at hi) (by rwa [place_row (m := m) (es := elsTo el k) (l := true)] at hj), fun b hb => hM.stlt b (hM.kept b hb).1, fun b hb => .inl hb, fun b hb hnb => absurd hb hnb, fun b hb => ?_⟩, hS.defers, hS.size, fun t v ht => ?_⟩⟩
  · obtain ⟨v, x, h1, h2, h3, _⟩ := (hel' i e' he').2.2 j x' hx'
    exact ⟨v, x, h1, h2, h3⟩
  · have hi0 : i = 0 := by
      cases i with
      | zero => rfl
      | succ i => simp [lk] at hi
    subst hi0
    simp [lk] at hi
    subst hi
    refine ⟨by rw [q1]; rw [elsTo_length] at b1; exact b1, by rw [q1]; rw [elsTo_length] at b2; exact b2, fun i e' he' => (hel' i e' he').2.1, fun hpos => ?_⟩
    obtain ⟨g1, g2, rcs, tt, g3, g4, g5⟩ := b4 hpos
    refine ⟨g1, fun hs => g2 (hM.kept _ hs).1, rcs, tt, g3, g4, fun i j e' x' he' hx' => ?_⟩
    obtain ⟨v, x, rfl, _, _, h5, h6⟩ := (hel' i e' he').2.2 j x' hx'
    exact ⟨v, h6 rcs tt g3, .val v h5⟩
  · refine ⟨hM.stlt b hb.1, fun hs => absurd (hsh b hs) (Nat.not_lt.2 hb.2), fun id hid => ?_, rfl⟩
    rw [place_row (m := m) (es := elsTo el k) (l := true)] at hid
    exact (hM.place_lt hid).2.2 hb.1
  · obtain ⟨h2, h3⟩ := hS.tmps t v ht
    exact ⟨h2, vr_sw (fun b hb hlt => (hM.stin b hb).resolve_right (Nat.not_le.2 hlt)) h3 (hok t v ht)⟩
theorem splitE_length (D : Nat → Prop) (el : Nat → List T) {n k : Nat} (hk : k ≤ n) : (splitE D k (elsTo el n)).length = n := by
  simp [splitE, elsTo_length]
  omega
theorem splitE_get {D : Nat → Prop} {el : Nat → List T} {n k i : Nat} {e : List T} (hk : k ≤ n) (he : (splitE D k (elsTo el n))[i]? = some e) : i < n ∧ ((i < k ∧ e = (el i).map (markT fun b => ¬ D b)) ∨ (k ≤ i ∧ e = (el i).map (markT D))) := by
  have hsl := splitE_length D el hk
  have hi : i < n := by have := (List.getElem?_eq_some_iff.1 he).1; omega
  refine ⟨hi, ?_⟩
  have htl : ((elsTo el n).take k).length = k := by simp [elsTo_length]; omega
  rcases Nat.lt_or_ge i k with h1 | h1
  · left
    refine ⟨h1, ?_⟩
    unfold splitE at he
    rw [List.getElem?_append_left (by rw [List.length_map, htl]; exact h1), List.getElem?_map, List.getElem?_take_of_lt h1, elsTo_get hi] at he
    simp only [Option.map_some, Option.some.injEq] at he
    exact he.symm
  · right
    refine ⟨h1, ?_⟩
    unfold splitE at he
    rw [List.getElem?_append_right (by rw [List.length_map, htl]; exact h1), List.getElem?_map, List.length_map, htl, List.getElem?_drop, show k + (i - k) = i by omega, elsTo_get hi] at he
    simp only [Option.map_some, Option.some.injEq] at he
    exact he.symm
theorem switch_out (hR : ∀ b, ¬ c.R b) {z n k : Nat} {el : Nat → List T} (hk : k ≤ n) {es' : List (List T)} {wk : World} {mk : Mp} (hP : Ph c z k el es' wk mk) {es2 : List (List T)} (he2 : es2.length = n - k) (he3 : ∀ i, i < n - k → es2[i]? = some (el (k + i)))
    (hok : ∀ t v, tm t = some v → okSw c.B v) (hS : Sat (cOf c wk mk) m (lk [.row n z (es' ++ es2) true]) tm a w) :
    ∃ (D : Nat → Prop) (m' : Mp), (∀ b, D b → c.B ≤ b) ∧ Sat c m' (lk [.row n z (splitE D k (elsTo el n)) true]) tm a w := by
  have hM := hS.mem
  obtain ⟨b1, b2, b3, b4⟩ := hM.blk 0 (.row n z (es' ++ es2) true) rfl
  have hlen : (es' ++ es2).length = n := by rw [List.length_append, hP.len, he2]; exact Nat.add_sub_cancel' hk
  let D : Nat → Prop := fun b => m.st b ∧ c.B ≤ b
  let R : Nat → Prop := fun b => mk.st b ∧ c.B ≤ b
  have hres : ∀ b, R b → b < w.heap.size ∧ ¬ m.st b ∧ (∀ id, place m (lk [.row n z (es' ++ es2) true]) id ≠ some b) ∧ w.heap[b]? = wk.heap[b]? := hM.res
  have hsl := splitE_length D el hk
  have hsp := fun i e => splitE_get (D := D) (el := el) (i := i) (e := e) hk
  have hmap : ∀ (D' : Nat → Prop) (i j : Nat) (x : T), ((el i).map (markT D'))[j]? = some x → ∃ x0, (el i)[j]? = some x0 ∧ x = markT D' x0 := fun D' i j x hx => by
    rw [List.getElem?_map] at hx
    simp only [Option.map_eq_some_iff] at hx
    obtain ⟨x0, h1, rfl⟩ := hx
    exact ⟨x0, h1, rfl⟩
  have hhigh : ∀ i, k ≤ i → i < n → (es' ++ es2)[i]? = some (el i) := fun i h1 h2 => by
    rw [List.getElem?_append_right (by rw [hP.len]; exact h1), hP.len, he3 (i - k) (Nat.sub_lt_sub_right h1 h2), Nat.add_sub_cancel' h1]
  have hlow : ∀ i, i < k → ∃ e', es'[i]? = some e' ∧ (es' ++ es2)[i]? = some e' := fun i h1 => by
    obtain ⟨e', he'⟩ := list_get (l := es') (j := i) (by rw [hP.len]; exact h1)
    exact ⟨e', he', by rw [List.getElem?_append_left (by rw [hP.len]; exact h1)]; exact he'⟩
  have helz : ∀ i, i < n → (el i).length = z := fun i hi => by
    rcases Nat.lt_or_ge i k with h1 | h1
    · exact hP.elz i h1
    · exact b3 i (el i) (hhigh i h1 hi)
  refine ⟨D, { m with st := fun b => m.st b ∨ R b }, fun b hb => hb.2, ⟨hM.below, fun b hb => ⟨.inl (hM.kept b hb).1, (hM.kept b hb).2⟩, fun i b hi => ?_, fun i j g hi hj => hM.sep i j g (by rwa [place_row (m := m) (es := es' ++ es2) (l := true)] at hi) (by rwa [place_row (m := m) (es := es' ++ es2) (l := true)] at hj), fun b hb => hb.elim (hM.stlt b) (fun h => (hres b h).1), fun b hb => hb.elim (hM.stin b) (fun h => .inr h.2), fun b hb hnb => hb.elim (fun h => hM.soft b h hnb) (fun h => (hP.soft b h.1 hnb).of (hres b h).2.2.2), fun b hb => (hR b hb).elim⟩, hS.defers, hS.size, fun t v ht => ?_⟩
  · have hi0 : i = 0 := by
      cases i with
      | zero => rfl
      | succ i => simp [lk] at hi
    subst hi0
    simp [lk] at hi
    subst hi
    refine ⟨by rw [hsl, ← hlen]; exact b1, by rw [hsl, ← hlen]; exact b2, fun i e he => ?_, fun hpos => ?_⟩
    · obtain ⟨h1, h2⟩ := hsp i e he
      rcases h2 with ⟨_, rfl⟩ | ⟨_, rfl⟩
      · rw [List.length_map]; exact helz i h1
      · rw [List.length_map]; exact helz i h1
    · obtain ⟨g1, g2, rcs, tt, g3, g4, g5⟩ := b4 hpos
      refine ⟨g1, fun hs => ?_, rcs, tt, g3, g4, fun i j e x he hx => ?_⟩
      · rcases hs with hs | hs
        · exact g2 hs
        · exact (hres _ hs).2.2.1 0 (show (if 0 < (m.ψ 0).2 then some (m.ψ 0).1 else none) = some (m.ψ 0).1 from if_pos hpos)
      · obtain ⟨h1, h2⟩ := hsp i e he
        rcases h2 with ⟨h3, rfl⟩ | ⟨h3, rfl⟩
        · obtain ⟨x0, hx0, rfl⟩ := hmap _ i j x hx
          obtain ⟨e', he', he''⟩ := hlow i h3
          obtain ⟨p1, p2⟩ := hP.cells i e' he'
          have hj : j < e'.length := by
            rw [p1, ← hP.elz i h3]
            exact (List.getElem?_eq_some_iff.1 hx0).1
          obtain ⟨x', hx'⟩ := list_get (l := e') (j := j) hj
          obtain ⟨v, x1, rfl, hx1, hrep⟩ := p2 j x' hx'
          rw [hx0] at hx1
          simp only [Option.some.injEq] at hx1
          subst hx1
          obtain ⟨u, hu1, hu2⟩ := g5 i j e' _ he'' hx'
          obtain rfl := rep_val hu2
          refine ⟨u, hu1, ?_⟩
          have hr2 : Rep w R u x0 := hrep.mono (fun b hb => ⟨hb.1, hb.2 rfl⟩) (fun b hb => (hres b ⟨hb.1, hb.2 rfl⟩).2.2.2)
          have hr3 : Rep w R u (markT (fun b => ¬ D b) x0) := rep_mark hr2 (fun b hb hd => (hres b hb).2.1 hd.1)
          exact hr3.mono (fun b hb => ⟨.inr hb, fun _ => hb.2⟩) (fun _ _ => rfl)
        · obtain ⟨x0, hx0, rfl⟩ := hmap _ i j x hx
          obtain ⟨u, hu1, hu2⟩ := g5 i j _ _ (hhigh i h3 h1) hx0
          refine ⟨u, hu1, ?_⟩
          exact (rep_mark (D := D) hu2 (fun b hb => ⟨hb.1, hb.2 rfl⟩)).mono (fun b hb => ⟨.inl hb.1, hb.2⟩) (fun _ _ => rfl)
  · obtain ⟨h2, h3⟩ := hS.tmps t v ht
    exact ⟨h2, vr_sw (N := c.B) (fun b hb _ => .inl hb) h3 (hok t v ht)⟩
theorem env_of (c : Ct) (hm : c.P.follows .mixedOrders = true) : Env (Xof c.P) c := ⟨tiOf_ok c.P, fun _ _ _ _ h => h, fun _ _ _ _ h => h, hm, fun _ _ _ _ h => h.elim, fun _ _ _ _ _ _ h => h.elim⟩
theorem hl_sound (hm : c.P.follows .mixedOrders = true) (hsh : ∀ b, c.st b → b < c.B) (hR : ∀ b, ¬ c.R b) {ad : List (Nat × Nat)} {mk : List Nat} {C : C} {K : Ex → S → Prop} {s : S} (hK : HL c.P c.B ad mk C K s)
    {cd : Code} {fl : List Nat} {hs hs' : List Hint} (ht : tr0 c.n fl cd hs = some (C, hs')) {Q : Exit → Act → World → Prop} (hQ : Lets c K Q) (hS : Sat c m (lk s.hp) s.tm a w) : (Code.loop cd).wp c.P Q a w := by
  obtain ⟨z, n, k, ex, el, tmF, tmX, hkn, hel, h0, hstep, hend, hok, hokX, hfin⟩ := hK
  obtain ⟨m0, hS0⟩ := adopt_sound ad hS
  let hd := hdL ad mk (adopt ad s)
  let Inv : Nat → Act → World → Prop := fun q a w => ∃ i, i ≤ n ∧ q = n - i ∧
    ((i ≤ k ∧ ∃ (s1 : S) (m1 : Mp), Sat c m1 (lk s1.hp) s1.tm a w ∧ hd s1 = ⟨tmF i, [.row i z (elsTo el i) true]⟩) ∨
     (k < i ∧ ∃ (es' es2 : List (List T)) (wk : World) (mk' : Mp) (s1 : S) (m1 : Mp), Ph c z k el es' wk mk' ∧ es2.length = i - k ∧ (∀ j, j < i - k → es2[j]? = some (el (k + j))) ∧ Sat (cOf c wk mk') m1 (lk s1.hp) s1.tm a w ∧ hd s1 = ⟨tmF i, [.row i z (es' ++ es2) true]⟩))
  have phase2 : ∀ (i : Nat), k ≤ i → i ≤ n → ∀ (es' es2 : List (List T)) (wk : World) (mk' : Mp) (m1 : Mp) (a : Act) (w : World), Ph c z k el es' wk mk' → es2.length = i - k → (∀ j, j < i - k → es2[j]? = some (el (k + j))) → Sat (cOf c wk mk') m1 (lk [.row i z (es' ++ es2) true]) (tmF i) a w →
      cd.wp c.P (Exit.then (fun a' w' => ∃ n', n' < n - i ∧ Inv n' a' w') Q) a w := by
    intro i hki hin es' es2 wk mk' m1 a w hP he2 he3 hS1
    have hl : (es' ++ es2).length = i := by rw [List.length_append, hP.len, he2]; omega
    have E' : Env (Xof c.P) (cOf c wk mk') := env_of (cOf c wk mk') hm
    rcases Nat.lt_or_ge i n with hlt | hge
    · refine W_sound0 E' cd hs hs' C ht (fun e s' => match e with | .n => hd s' = ⟨tmF (i + 1), [.row (i + 1) z (es' ++ es2 ++ [el i]) true]⟩ | _ => False) _ (fun e s' a' w' m' he hS' => ?_) ⟨tmF i, [.row i z (es' ++ es2) true]⟩ a w m1 hS1 (hstep i hlt (es' ++ es2) hl _ (fun s' h => h))
      cases e with
      | n =>
        refine ⟨n - (i + 1), by omega, i + 1, hlt, rfl, .inr ⟨by omega, es', es2 ++ [el i], wk, mk', s', m', hP, by rw [List.length_append, he2]; simp; omega, fun j hj => ?_, hS', by rw [← List.append_assoc]; exact he⟩⟩
        rcases Nat.lt_or_ge j (i - k) with h1 | h1
        · rw [List.getElem?_append_left (by rw [he2]; exact h1)]; exact he3 j h1
        · have : j = i - k := by omega
          subst this
          rw [List.getElem?_append_right (by rw [he2]; exact Nat.le_refl _), he2, Nat.sub_self, Nat.add_sub_cancel' hki]
          rfl
      | x id => exact he.elim
      | r => exact he.elim
      | g l => exact he.elim
    · have hi : i = n := by omega
      subst hi
      refine W_sound0 E' cd hs hs' C ht (fun e s' => e = .x ex ∧ s' = ⟨tmX, [.row i z (es' ++ es2) true]⟩) _ (fun e s' a' w' m' he hS' => ?_) ⟨tmF i, [.row i z (es' ++ es2) true]⟩ a w m1 hS1 (hend (es' ++ es2) hl _ rfl)
      obtain ⟨rfl, rfl⟩ := he
      obtain ⟨D, m2, hD, hS2⟩ := switch_out hR hkn hP he2 he3 hokX hS'
      exact hQ (.x ex) _ a' w' m2 (hfin D hD) hS2
  refine wp_loop_ghost Inv n ⟨0, Nat.zero_le _, rfl, .inl ⟨Nat.zero_le _, adopt ad s, m0, hS0, h0⟩⟩ ?_
  rintro q a w ⟨i, hin, rfl, hcase⟩
  rcases hcase with ⟨hik, s1, m1, hS1, hds⟩ | ⟨hki, es', es2, wk, mk', s1, m1, hP, he2, he3, hS1, hds⟩
  · obtain ⟨m2, hS2⟩ := hdL_sound (ad := ad) (mk := mk) (s0 := adopt ad s) hS1
    rw [show hdL ad mk (adopt ad s) s1 = ⟨tmF i, [.row i z (elsTo el i) true]⟩ from hds] at hS2
    rcases Nat.lt_or_ge i k with hlt | hge
    · refine W_sound0 (env_of c hm) cd hs hs' C ht (fun e s' => match e with | .n => hd s' = ⟨tmF (i + 1), [.row (i + 1) z (elsTo el i ++ [el i]) true]⟩ | _ => False) _ (fun e s' a' w' m' he hS' => ?_) ⟨tmF i, [.row i z (elsTo el i) true]⟩ a w m2 hS2 (hstep i (by omega) (elsTo el i) (elsTo_length el i) _ (fun s' h => h))
      cases e with
      | n => exact ⟨n - (i + 1), by omega, i + 1, by omega, rfl, .inl ⟨hlt, s', m', hS', by rw [elsTo_succ]; exact he⟩⟩
      | x id => exact he.elim
      | r => exact he.elim
      | g l => exact he.elim
    · have hi : i = k := by omega
      subst hi
      obtain ⟨es', hP, m3, hS3⟩ := switch_in hsh hR (fun j hj => hel j (by omega)) (hok i) hS2
      exact phase2 i (Nat.le_refl _) hin es' [] w m2 m3 a w hP (by simp) (fun j hj => by omega) (by rw [List.append_nil]; exact hS3)
  · obtain ⟨m2, hS2⟩ := hdL_sound (ad := ad) (mk := mk) (s0 := adopt ad s) hS1
    rw [show hdL ad mk (adopt ad s) s1 = ⟨tmF i, [.row i z (es' ++ es2) true]⟩ from hds] at hS2
    exact phase2 i (by omega) hin es' es2 wk mk' m2 a w hP he2 he3 hS2
noncomputable def Xl (P : Program) (N : Nat) : Cx := ⟨tiOf P, Spec P, SpecAp P, fun _ _ _ _ => False, fun _ ad mk C K s => HL P N ad mk C K s⟩
structure SpecS (P : Program) (f : Nat) (ts : List T) (z : Nat) (es : (Nat → Prop) → List (List T)) (n : Nat) : Prop where
  len : ∀ D, (es D).length = n
  body : ∃ fn c, P.funcs[f]? = some fn ∧ fn.body = some c ∧ fn.name ≠ "runtime.NumGoroutine"
  run : ∀ (w : World) (B : Nat → Prop) (args : Array Value), (∀ b, B b → b < w.heap.size) → ∀ hG : GlobOK w B, args.size = ts.length → (∀ (j : Nat) (v : Value) (x : T), args[j]? = some v → ts[j]? = some x → Rep w B v x) →
    Calls P f args w fun
      | .returned v, w' => ∃ D m, (∀ b, D b → w.heap.size ≤ b) ∧ Mem ⟨P, w, B, 0, w.heap.size, Nat.le_refl _, hG, fun _ => False, w⟩ m (lk [.row 0 z (es D) true]) w' ∧ VR m w.heap.size (lk [.row 0 z (es D) true]) w' v (.row 0 0 0 n)
      | _, _ => False
def s0m (N : Nat) (ts : List T) (n : Nat) : S := ⟨mapTm (markT fun b => b < N) (s0 ts n).tm, []⟩
theorem specS_of (hm : P.follows .mixedOrders = true) {f n : Nat} {fl : List Nat} {hs : List Hint} {C : C} {res : List ResultVar} (hB : Body P f fl hs C n res) {ts : List T} {z k : Nat} {es : (Nat → Prop) → List (List T)} (hlen : ∀ D, (es D).length = k)
    (hW : ∀ N, W (Xl P N) C (fun e s => ∃ D : Nat → Prop, (∀ b, D b → N ≤ b) ∧ retR (Xof P).ti res z (es D) true e s) (s0m N ts n)) : SpecS P f ts z es k := by
  obtain ⟨fn, cd, hf, hb, hname, rfl, rfl, htr⟩ := hB.it
  refine ⟨hlen, ⟨fn, cd, hf, hb, hname⟩, fun w B args hBl hG hl hr => ?_⟩
  have hc : ∀ b, (⟨P, w, B, fn.ntmps, w.heap.size, Nat.le_refl _, hG, fun _ => False, w⟩ : Ct).st b → b < w.heap.size := hBl
  have E : Env (Xl P w.heap.size) ⟨P, w, B, fn.ntmps, w.heap.size, Nat.le_refl _, hG, fun _ => False, w⟩ := ⟨tiOf_ok P, fun _ _ _ _ h => h, fun _ _ _ _ h => h, hm, fun _ _ _ _ h => h.elim,
    fun n ad mk C K s hK cd fl hs hs' ht Q hQ a w' m hS => hl_sound (c := ⟨P, w, B, fn.ntmps, w.heap.size, Nat.le_refl _, hG, fun _ => False, w⟩) hm hc (fun _ h => h) hK ht hQ hS⟩
  have hS0 := s0_sat (P := P) (n := fn.ntmps) w B hBl hG hl hr
  have hS1 := hS0.recell (markT fun b => b < w.heap.size) (fun l v x hrep => rep_mark hrep fun b hb => hBl b hb.1)
  refine calls_of_wp hf hb (W_sound E cd hs [] C htr _ _ (fun e s a w' m hk hS => ?_) _ _ w _ hS1 (hW w.heap.size))
  obtain ⟨D, hD, hk⟩ := hk
  obtain ⟨he, p, vs, hres, hp, hfin⟩ := retR_out (x := Xof P) hk hS
  obtain ⟨rvs, g1, g2, g3⟩ := run_results (P := P) (tiOf_ok P) hS fn hres hp
  obtain ⟨m', h1, h2⟩ := hfin rvs g2 g3
  rw [hlen] at h2
  rcases he with rfl | rfl
  · exact ⟨hS.defers, _, g1, D, m', hD, h1, h2⟩
  · exact ⟨hS.defers, _, g1, D, m', hD, h1, h2⟩
end
end Go.Proofs.YtgkmhmhbepfiaaaDoor.Pm
set_option linter.all false
namespace Go.Proofs.YtgkmhmhbepfiaaaDoor.Pm
open Go Go.RowKit
section
variable {P : Program} {w w' : World} {c : Ct} {m m' m1 : Mp} {h h' h1 : H} {ti : Nat → Option TI} {tm : Tm} {a : Act}
theorem called_pt (hM : Mem c m h w) {n : Nat} (lo : Bool) {bs : List Blk} {r : AV} (hn : ∀ i, n ≤ i → i < n + bs.length → h i = none) (hform : ok3 r = true) (hrows : ∀ b ∈ bs, ∃ z es l, b = .row 0 z es l)
    (hl : lo = true → r.fresh = true ∧ bs.all Blk.fresh = true) {hG : GlobOK w (lead m w lo)} {v : Value}
    (he : ∃ m1, Mem ⟨c.P, w, lead m w lo, 0, w.heap.size, Nat.le_refl _, hG, fun _ => False, w⟩ m1 (lk bs) w' ∧ VR m1 w.heap.size (lk bs) w' v r) :
    ∃ m', Ext m h w m' (uH h (number n bs)) w' ∧ Mem c m' (uH h (number n bs)) w' ∧ VR m' c.B (uH h (number n bs)) w' v (r.sh n) := by
  obtain ⟨m1, M1, hv⟩ := he
  have hB := M1.below
  simp only at hB
  have hsize : c.B ≤ w.heap.size := hM.bsize
  have hh' := uH_number bs h n
  have hold' : ∀ i b, h i = some b → ¬ (n ≤ i ∧ i < n + bs.length) := fun i b hi hc => by
    rw [hn i hc.1 hc.2] at hi; cases hi
  have hlow : ∀ i, ¬ (n ≤ i ∧ i < n + bs.length) → uH h (number n bs) i = h i := fun i hi => by rw [hh']; simp only; rw [if_neg hi]
  have hold : ∀ i b, h i = some b → uH h (number n bs) i = some b := fun i b hi => by
    rw [hlow i (hold' i b hi)]; exact hi
  have hnew : ∀ k, k < bs.length → uH h (number n bs) (k + n) = lk bs k := fun k hk => by
    rw [hh']
    simp only
    rw [if_pos (by omega)]; simp [lk]
  have hψ : ∀ k, k < bs.length → (mrg m m1 n bs.length w.heap.size).ψ (k + n) = m1.ψ k := fun k hk => by simp only [mrg, if_pos (show n ≤ k + n ∧ k + n < n + bs.length by omega), Nat.add_sub_cancel]
  have hψ0 : ∀ k, ¬ (n ≤ k ∧ k < n + bs.length) → (mrg m m1 n bs.length w.heap.size).ψ k = m.ψ k := fun k hk => by simp only [mrg, if_neg hk]
  have hφ0 : ∀ k, ¬ (n ≤ k ∧ k < n + bs.length) → (mrg m m1 n bs.length w.heap.size).φ k = m.φ k := fun k hk => by simp only [mrg, if_neg hk]
  have hok : ∀ (l : Bool) (b : Nat), (lo = true → l = true) → m1.ok w.heap.size l b → (mrg m m1 n bs.length w.heap.size).ok c.B l b := fun l b hlo hb => by
    rcases Nat.lt_or_ge b w.heap.size with hlt | hge
    · have hst := (M1.stin b hb.1).resolve_right (by simp only; omega)
      have hlf : l = false := by
        cases l
        · rfl
        · have := hb.2 rfl; omega
      have hany : lo = false := by
        cases hany : lo
        · rfl
        · have := hlo hany; rw [hlf] at this; cases this
      exact ⟨.inl (hst.2 hany), fun e => by rw [hlf] at e; cases e⟩
    · exact ⟨.inr ⟨hb.1, hge⟩, fun _ => Nat.le_trans hsize hge⟩
  have hext : Ext m h w (mrg m m1 n bs.length w.heap.size) (uH h (number n bs)) w' := by
    refine ⟨fun id hid => ?_, fun id hid => ?_, fun id v' z es l hid hh => ?_, fun id ver z es l hid hver hh => ?_, fun b hb => .inl hb, fun b hb => hB.block b (hM.stlt b hb)⟩ <;> obtain ⟨b, hb⟩ := Option.isSome_iff_exists.1 hid <;> have hlt := hold' _ _ hb
    · rw [hold _ _ hb]; rfl
    · exact hφ0 _ hlt
    · rw [hlow _ hlt] at hh
      exact ⟨v', z, es, l, hh, Nat.le_refl _⟩
    · have : rowOf h id ver = some (z, es, l) := by simpa only [rowOf, hlow _ hlt] using hh
      exact ⟨⟨es, l, this⟩, hψ0 _ hlt⟩
  have hpl0 : ∀ i, ¬ (n ≤ i ∧ i < n + bs.length) → place (mrg m m1 n bs.length w.heap.size) (uH h (number n bs)) i = place m h i := fun i hi => by
    unfold place
    rw [hlow i hi]
    cases h i with
    | none => rfl
    | some b => cases b <;> simp [placeB, hψ0 i hi, hφ0 i hi]
  have hpl1 : ∀ k, k < bs.length → place (mrg m m1 n bs.length w.heap.size) (uH h (number n bs)) (k + n) = place m1 (lk bs) k := fun k hk => by
    unfold place
    rw [hnew k hk]
    cases hk' : lk bs k with
    | none => rfl
    | some b =>
      obtain ⟨z, es, l, rfl⟩ := hrows b (List.mem_of_getElem? hk')
      simp only [placeB, hψ k hk]
  refine ⟨mrg m m1 n bs.length w.heap.size, hext, ⟨hM.below.trans (hB.mono hsize), hext.kept hM.kept, fun i b hi => ?_, fun i j g hi hj => ?_, fun b hb => ?_, fun b hb => ?_, fun b hb hBb => ?_, fun b hb => ⟨Nat.lt_of_lt_of_le (hM.res b hb).1 hB.size, fun hs => hs.elim (hM.res b hb).2.1 (fun hs => absurd hs.2 (Nat.not_le.2 (hM.res b hb).1)), fun i hi => ?_, (hB.block b (hM.res b hb).1).trans (hM.res b hb).2.2.2⟩⟩, ?_⟩
  · by_cases hin : n ≤ i ∧ i < n + bs.length
    · obtain ⟨k, hk, rfl⟩ : ∃ k, k < bs.length ∧ i = k + n := ⟨i - n, by omega, by omega⟩
      rw [hnew k hk] at hi
      obtain ⟨z, es, l, rfl⟩ := hrows b (List.mem_of_getElem? hi)
      obtain ⟨b1, b2, b3, b4⟩ := M1.blk _ _ hi
      have hlo : lo = true → l = true := fun e => by
        have := (hl e).2
        rw [List.all_eq_true] at this
        exact this _ (List.mem_of_getElem? hi)
      refine ⟨by rw [hψ k hk]; exact b1, b2, b3, fun hpos => ?_⟩
      rw [hψ k hk] at hpos ⊢
      obtain ⟨g1, g2, rcs, tt, g3, g4, g5⟩ := b4 hpos
      simp only at g1
      refine ⟨Nat.le_trans hsize g1, fun hs => ?_, rcs, tt, g3, g4, fun q j e x he hx => ?_⟩
      · rcases hs with hs | hs
        · have := hM.stlt _ hs; omega
        · exact g2 hs.1
      · obtain ⟨v, hv1, hv2⟩ := g5 q j e x he hx
        exact ⟨v, hv1, hv2.mono (fun b hb => hok l b hlo hb) (fun _ _ => rfl)⟩
    · rw [hlow i hin] at hi
      refine (hM.blk i b hi).keep hext (hφ0 i hin) (hψ0 i hin) fun g hg => ?_
      obtain ⟨p1, p2, p3⟩ := hM.place_lt (id := i) (g := g) (by simp [place, hi, hg])
      refine ⟨fun hs => ?_, hB.block g p1⟩
      rcases hs with hs | hs
      · exact p3 hs
      · have h2 := hs.2; omega
  · by_cases hin : n ≤ i ∧ i < n + bs.length <;> by_cases hjn : n ≤ j ∧ j < n + bs.length
    · obtain ⟨k, hk, rfl⟩ : ∃ k, k < bs.length ∧ i = k + n := ⟨i - n, by omega, by omega⟩
      obtain ⟨k', hk', rfl⟩ : ∃ k, k < bs.length ∧ j = k + n := ⟨j - n, by omega, by omega⟩
      rw [hpl1 k hk] at hi; rw [hpl1 k' hk'] at hj
      rw [M1.sep k k' g hi hj]
    · obtain ⟨k, hk, rfl⟩ : ∃ k, k < bs.length ∧ i = k + n := ⟨i - n, by omega, by omega⟩
      rw [hpl0 j hjn] at hj; rw [hpl1 k hk] at hi
      have h1 := (hM.place_lt hj).1
      have h2 := (M1.place_lt hi).2.1
      simp only at h2
      omega
    · obtain ⟨k, hk, rfl⟩ : ∃ k, k < bs.length ∧ j = k + n := ⟨j - n, by omega, by omega⟩
      rw [hpl0 i hin] at hi; rw [hpl1 k hk] at hj
      have h1 := (hM.place_lt hi).1
      have h2 := (M1.place_lt hj).2.1
      simp only at h2
      omega
    · rw [hpl0 i hin] at hi; rw [hpl0 j hjn] at hj; exact hM.sep i j g hi hj
  · rcases hb with hb | hb
    · exact Nat.lt_of_lt_of_le (hM.stlt b hb) hB.size
    · exact M1.stlt b hb.1
  · rcases hb with hb | hb
    · exact hM.stin b hb
    · exact .inr (Nat.le_trans hsize hb.2)
  · rcases hb with hb | hb
    · exact hM.softE hext b hb hBb
    · exact M1.soft b hb.1 (fun h => absurd h.1 (Nat.not_lt.2 hb.2))
  · by_cases hin : n ≤ i ∧ i < n + bs.length
    · obtain ⟨k, hk, rfl⟩ : ∃ k, k < bs.length ∧ i = k + n := ⟨i - n, by omega, by omega⟩
      rw [hpl1 k hk] at hi
      have h2 := (M1.place_lt hi).2.1
      simp only at h2
      exact absurd (hM.res b hb).1 (Nat.not_lt.2 h2)
    · rw [hpl0 i hin] at hi
      exact (hM.res b hb).2.2.1 i hi
  · -- the result
    have one : ∀ (v : Value) (x : AV), ok1 x = true → (lo = true → (match x with | .t _ l => l | _ => true) = true) → VR m1 w.heap.size (lk bs) w' v x → VR (mrg m m1 n bs.length w.heap.size) c.B (uH h (number n bs)) w' v (x.sh1 n) := by
      intro v x hx hf hv
      cases hv <;> simp only [ok1, Bool.false_eq_true] at hx
      case t y l hr => exact .t _ _ _ (hr.mono (fun b hb => hok l b hf hb) (fun _ _ => rfl))
      case nl => exact .nl
      case e0 A => exact .e0 A
      case row id ver off len k A hid hver hc hr =>
        have hk : id < bs.length := by
          obtain ⟨b, hb⟩ := Option.isSome_iff_exists.1 hid
          exact (List.getElem?_eq_some_iff.1 hb).1
        refine .row (id + n) ver off len k A (by rw [hnew id hk]; exact hid) (fun v' z es l hh => hver v' z es l (by rw [← hnew id hk]; exact hh)) hc fun z es l hrow => ?_
        rw [hψ id hk]
        exact hr z es l (by simpa only [rowOf, hnew id hk] using hrow)
    have two : ∀ (v : Value) (x : AV), ok2 x = true → (lo = true → (match x with | .t _ l => l | .agg cs => cs.all (fun | .t _ l => l | _ => true) | _ => true) = true) → VR m1 w.heap.size (lk bs) w' v x → VR (mrg m m1 n bs.length w.heap.size) c.B (uH h (number n bs)) w' v (x.sh2 n) := by
      intro v x hx hf hv
      cases x
      case agg cs =>
        simp only [ok2, List.all_eq_true] at hx
        cases hv with
        | agg vs _ hs hvv =>
          refine .agg vs _ (by simpa using hs) fun j u y hu hy => ?_
          rw [List.getElem?_map] at hy
          simp only [Option.map_eq_some_iff] at hy
          obtain ⟨y0, hy0, rfl⟩ := hy
          refine one u y0 (hx y0 (List.mem_of_getElem? hy0)) (fun e => ?_) (hvv j u y0 hu hy0)
          have := hf e
          simp only [List.all_eq_true] at this
          exact this y0 (List.mem_of_getElem? hy0)
      all_goals (simp only [ok2] at hx; exact one v _ hx hf hv)
    have hf0 := fun e => (hl e).1
    cases r
    case tup us =>
      simp only [ok3, List.all_eq_true] at hform
      cases hv with
      | tup vs _ hs hvv =>
        refine .tup vs _ (by simpa using hs) fun j u y hu hy => ?_
        rw [List.getElem?_map] at hy
        simp only [Option.map_eq_some_iff] at hy
        obtain ⟨y0, hy0, rfl⟩ := hy
        refine two u y0 (hform y0 (List.mem_of_getElem? hy0)) (fun e => ?_) (hvv j u y0 hu hy0)
        have := hf0 e
        simp only [AV.fresh, List.all_eq_true] at this
        exact this y0 (List.mem_of_getElem? hy0)
    all_goals (simp only [ok3] at hform; exact two v _ hform (fun e => hf0 e) hv)
def HK4 (P : Program) (x : Cx) (l : List I) (s : S) (K : S → Prop) : Prop :=
  ∃ pre d cl suf, l = pre ++ ⟨some d, .call cl, none⟩ :: suf ∧ wops x pre s fun s1 =>
    ∃ f vs g ts0 ts z es k, cl.callee = .value f ∧ ev s1.tm f = some (.fn g []) ∧ evs s1.tm cl.args.toList = some vs ∧ argsOK (lk s1.hp) vs ts0 ∧ bares ts0 ts ∧ SpecS P g ts z es k ∧
      ∀ D : Nat → Prop, wops x suf ⟨up (mapTm (markT fun b => ¬ D b) s1.tm) d (some ((AV.row 0 0 0 k).sh s1.hp.length)), s1.hp.map (mapB (markT fun b => ¬ D b)) ++ [.row 0 z (es D) true]⟩ K
theorem hk4_sound {x : Cx} (E : Env x c) {l : List I} {s : S} {K : S → Prop} (hK : HK4 c.P x l s K) {ops : Array Oper} {Q : Exit → Act → World → Prop} (ht : trIs c.n ops.toList ops.toList = some l) (hS : Sat c m (lk s.hp) s.tm a w)
    (hQ : ∀ s' a' w' m', K s' → Sat c m' (lk s'.hp) s'.tm a' w' → Q .normal a' w') : wpOps c.P ops Q (List.range' 0 ops.toList.length) a w := by
  obtain ⟨pre, d, cl, suf, rfl, hK⟩ := hK
  obtain ⟨r1, o, r2, hr, t1, t2, t3⟩ := trIs_split ht
  have hlen : ops.toList.length = r1.length + (1 + r2.length) := by rw [hr]; simp; omega
  have hget : ∀ i, ops[i]? = (r1 ++ o :: r2)[i]? := fun i => by rw [← hr, Array.getElem?_toList]
  have hrng : List.range' 0 ops.toList.length = List.range' 0 r1.length ++ (r1.length :: List.range' (r1.length + 1) r2.length) := by
    rw [hlen, ← List.range'_append_1, Nat.add_comm 1, List.range'_succ]
    simp
  rw [hrng]
  refine wops_part E (fun s1 a1 w1 m1 hk hS1 => ?_) r1 0 pre s m a w (fun i o' h => by rw [Nat.zero_add, hget, List.getElem?_append_left (List.getElem?_eq_some_iff.1 h).1]; exact h) t1 hS hK
  obtain ⟨f, vs, g, ts0, ts, z, es, k, hcl, hf, hvs, ha, hb, hsp', hk⟩ := hk
  obtain ⟨fn, bd, hfn, hbd, hname⟩ := hsp'.body
  have ho : ops[r1.length]? = some o := by rw [hget]; simp
  simp only [wpOps, ho]
  unfold trI at t2
  split at t2 <;> try cases t2
  rename_i hdi
  have hdst := dstIn_spec hdi
  cases hg : o.guard with
  | some gw =>
    obtain ⟨j, want⟩ := gw
    rw [hg] at t2
    simp only at t2
    split at t2 <;> simp at t2
  | none =>
  rw [hg] at t2
  simp only [Option.some.injEq, I.mk.injEq, and_true] at t2
  obtain ⟨hd1, hop⟩ := t2
  rw [if_pos (by simp [Region.wanted, hg])]
  refine .inl ?_
  obtain ⟨dst, op, ty, pos, after, guard⟩ := o
  simp only at hd1 hop hdst hg
  subst hop
  obtain ⟨callee, args, tys⟩ := cl
  simp only at hcl hvs
  subst hcl
  have hfv := ev_vr hS1 hf
  generalize hfe : a1.eval f = rf at hfv
  obtain ⟨hl1, hg1⟩ := evs_vr hS1 hvs
  cases hfv with
  | fn _ caps _ hcs hcv =>
  have hcaps : caps = #[] := by
    apply Array.eq_empty_of_size_eq_zero
    simpa using hcs
  subst hcaps
  have hrun : (execOp a1.eval { dst, op := .call { callee := .value f, args := args, argTypes := tys }, type := ty, pos, after, guard }).run c.P w1 = .ok (.enter g (args.map a1.eval ++ #[])) w1 := by
    simp only [execOp, resolve, hfe, Deferred.ofValue, Sem.run_bind, Sem.run_pure, Result.andThen_ok, invoke]
    simp [callFunc, hfn, hname, hbd]
  unfold Oper.wp
  rw [hrun, Oper.upon_enter]
  obtain ⟨al0, ag⟩ := argsOK_get ha
  obtain ⟨al, ab⟩ := bares_get hb
  have hsz : (args.map a1.eval ++ #[]).size = vs.length := by simp at hl1 ⊢; omega
  have hargs : ∀ (j : Nat) (v : Value) (y : T), (args.map a1.eval ++ #[])[j]? = some v → ts[j]? = some y → Rep w1 (lead m1 w1 (vs.any AV.loose)) v y := fun j v y hv hy => by
    have hj := (List.getElem?_eq_some_iff.1 hy).1
    obtain ⟨u, hu⟩ := list_get (l := vs) (j := j) (by omega)
    obtain ⟨x0, hx0, hr0⟩ := ab j y hy
    refine hr0 _ _ _ (lead_mono (fun e => ?_) (arg_rep hS1.mem (ag j u x0 hu hx0) (hg1 j v u (by rw [← Array.toList_map]; simpa using hv) hu)))
    rw [List.any_eq_false] at e
    simpa using e u (List.mem_of_getElem? hu)
  have hG := glob_in (B := lead m1 w1 (vs.any AV.loose)) hS1.mem fun b hb => ⟨hS1.mem.stlt b (hS1.mem.kept b hb).1, fun _ => (hS1.mem.kept b hb).1⟩
  have hcall := hsp'.run w1 (lead m1 w1 (vs.any AV.loose)) (args.map a1.eval ++ #[]) (fun b hb => hb.1) hG (by omega) hargs
  refine hcall.mono fun e w' he => ?_
  cases e with
  | panicked _ => exact he.elim
  | outgrown => exact he.elim
  | returned rv =>
    obtain ⟨D, m2, hD, M2, hv2⟩ := he
    have hS2 := hS1.recell (markT fun b => ¬ D b) (fun l v y hrep => rep_mark hrep fun b hb hd => absurd (hS1.mem.stlt b hb.1) (Nat.not_lt.2 (hD b hd)))
    obtain ⟨m', e1, M1, hv⟩ := called_pt hS2.mem (n := s1.hp.length) (vs.any AV.loose) (bs := [.row 0 z (es D) true]) (r := .row 0 0 0 k) (fun i hi1 hi2 => List.getElem?_eq_none (by simpa using hi1)) rfl (fun b hb => by rw [List.mem_singleton.1 hb]; exact ⟨_, _, _, rfl⟩) (fun _ => ⟨rfl, rfl⟩) (hG := hG) ⟨m2, M2, hv2⟩
    have hlk : uH (lk (s1.hp.map (mapB (markT fun b => ¬ D b)))) (number s1.hp.length [.row 0 z (es D) true]) = lk (s1.hp.map (mapB (markT fun b => ¬ D b)) ++ [.row 0 z (es D) true]) := by
      have h1 := upds_number [.row 0 z (es D) true] (s1.hp.map (mapB (markT fun b => ¬ D b)))
      rw [List.length_map] at h1
      rw [← h1, lk_upds _ _ (by rw [List.length_map]; exact fits_number _ _)]
    rw [hlk] at e1 M1 hv
    have hS3 := (hS2.of_mem e1 M1).put dst hdst hv
    have := wops_part E (ops := ops) (Q := Q) (rest := []) (fun s' a' w' m' hk hS' => hQ s' a' w' m' hk hS') r2 (r1.length + 1) suf ⟨up (mapTm (markT fun b => ¬ D b) s1.tm) d (some ((AV.row 0 0 0 k).sh s1.hp.length)), _⟩ m' _ w' (fun i o' h => by
      rw [hget, List.getElem?_append_right (by omega), show r1.length + 1 + i - r1.length = i + 1 by omega]
      exact h) t3 (by rw [hd1] at hS3; exact hS3) (hk D)
    rw [List.append_nil] at this
    rw [hd1]
    exact this
def HK5 (x : Cx) (l : List I) (s : S) (K : S → Prop) : Prop := HK2 x l s fun s' => K ⟨mapTm T.bare1 s'.tm, s'.hp.map (mapB T.bare1)⟩
theorem hk5_sound {x : Cx} (E : Env x c) (hsh : ∀ b, c.st b → b < c.B) {l : List I} {s : S} {K : S → Prop} (hK : HK5 x l s K) {ops : Array Oper} {Q : Exit → Act → World → Prop} (ht : trIs c.n ops.toList ops.toList = some l) (hS : Sat c m (lk s.hp) s.tm a w)
    (hQ : ∀ s' a' w' m', K s' → Sat c m' (lk s'.hp) s'.tm a' w' → Q .normal a' w') : wpOps c.P ops Q (List.range' 0 ops.toList.length) a w :=
  hk2_sound E hsh hK ht hS fun s' a' w' m' hk hS' => hQ _ a' w' m' hk (hS'.recell T.bare1 fun _ _ _ hr => rep_bare1 hr)
def HK6 (x : Cx) (l : List I) (s : S) (K : S → Prop) : Prop := ∃ (mk : List Nat) (k : Nat), wops x l s fun s' => K (cut mk k s')
theorem hk6_sound {x : Cx} (E : Env x c) {l : List I} {s : S} {K : S → Prop} (hK : HK6 x l s K) {ops : Array Oper} {Q : Exit → Act → World → Prop} (ht : trIs c.n ops.toList ops.toList = some l) (hS : Sat c m (lk s.hp) s.tm a w)
    (hQ : ∀ s' a' w' m', K s' → Sat c m' (lk s'.hp) s'.tm a' w' → Q .normal a' w') : wpOps c.P ops Q (List.range' 0 ops.toList.length) a w := by
  obtain ⟨mk, k, hK⟩ := hK
  exact wops_sound E (K := fun s' => K (cut mk k s')) (fun s' a' w' m' hk hS' => by
    obtain ⟨m2, hS2⟩ := cut_sound (mk := mk) (k := k) hS'
    exact hQ _ a' w' m2 hk hS2) ops.toList 0 l s m a w (by simp) ht hS hK
noncomputable def Xc (P : Program) : Cx := ⟨tiOf P, Spec P, SpecAp P, fun n l s K => match n with
  | 2 => HK2 (Xof P) l s K
  | 4 => HK4 P (Xof P) l s K
  | 5 => HK5 (Xof P) l s K
  | 6 => HK6 (Xof P) l s K
  | _ => False, fun _ _ _ _ _ _ => False⟩
theorem holdC {P : Program} (hm : P.follows .mixedOrders = true) : Hold P (Xc P) := ⟨tiOf_ok P, fun _ _ _ _ h => h, fun _ _ _ _ h => h, hm, fun c hc hsh n l s K hK ops m a w Q ht hS hQ => by
  subst hc
  have E : Env (Xof c.P) c := env_of c hm
  match n with
  | 0 => exact hK.elim
  | 1 => exact hK.elim
  | 2 => exact hk2_sound E hsh hK ht hS hQ
  | 3 => exact hK.elim
  | 4 => exact hk4_sound E hK ht hS hQ
  | 5 => exact hk5_sound E hsh hK ht hS hQ
  | 6 => exact hk6_sound E hK ht hS hQ
  | n + 7 => exact hK.elim, fun _ _ _ _ _ _ _ _ _ _ h => h.elim⟩
end
end Go.Proofs.YtgkmhmhbepfiaaaDoor.Pm
