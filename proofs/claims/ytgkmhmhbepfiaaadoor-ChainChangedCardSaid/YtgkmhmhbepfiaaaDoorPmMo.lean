/- Texts of this proof in one file: PmMw, PmMv, PmJu, PmNa, PmNb. No law of Go's is stated here. -/
import Derived.Test.YtgkmhmhbepfiaaaDoorPmMm
import Derived.Test.YtgkmhmhbepfiaaaDoorPmMd
import Derived.Test.YtgkmhmhbepfiaaaDoorPmMg
import Derived.Test.YtgkmhmhbepfiaaaDoorPmJs
import Derived.Test.YtgkmhmhbepfiaaaDoorPmMi
set_option linter.all false
namespace Go.Proofs.YtgkmhmhbepfiaaaDoor.Pm
open Go Go.RowKit
theorem Xm_ti (P : Program) : (Xm P).ti = (Xof P).ti := rfl
def mapE (f : T → T) (es : List (List T)) : List (List T) := es.map fun e => e.map f
theorem mapB_row (f : T → T) (ver z : Nat) (es : List (List T)) (l : Bool) : mapB f (.row ver z es l) = .row ver z (mapE f es) l := rfl
theorem mapB_var (f : T → T) (cs : List AV) : mapB f (.var cs) = .var cs := rfl
theorem mapB_gone (f : T → T) : mapB f .gone = .gone := rfl
theorem mapV_t (f : T → T) (x : T) (l : Bool) : mapV f (.t x l) = .t (f x) l := rfl
theorem mapV_nl (f : T → T) : mapV f .nl = .nl := rfl
theorem mapV_e0 (f : T → T) : mapV f .e0 = .e0 := rfl
theorem mapV_row (f : T → T) (id ver off len : Nat) : mapV f (.row id ver off len) = .row id ver off len := rfl
theorem mapV_ptr (f : T → T) (id off : Nat) : mapV f (.ptr id off) = .ptr id off := rfl
theorem mapV_agg (f : T → T) (cs : List AV) : mapV f (.agg cs) = .agg cs := rfl
theorem mapV_tup (f : T → T) (cs : List AV) : mapV f (.tup cs) = .tup cs := rfl
theorem markT_sl (D : Nat → Prop) (es : List (List T)) : markT D (.sl es) = .inn D (.sl es) := rfl
theorem markT_i (D : Nat → Prop) (k : IntKind) (n : Int) : markT D (.i k n) = .i k n := rfl
theorem markT_b (D : Nat → Prop) (x : Bool) : markT D (.b x) = .b x := rfl
theorem markT_s (D : Nat → Prop) (x : ByteArray) : markT D (.s x) = .s x := rfl
theorem markT_agg (D : Nat → Prop) (cs : List T) : markT D (.agg cs) = .agg cs := rfl
theorem markT_inn (D D' : Nat → Prop) (x : T) : markT D (.inn D' x) = .inn D' x := rfl
theorem keepB_nil (kb : List Nat) (i : Nat) : keepB kb i [] = [] := rfl
def keep1 (b : Blk) : Bool → Blk
  | true => b
  | false => .gone
theorem keepB_cons (kb : List Nat) (i : Nat) (b : Blk) (bs : List Blk) : keepB kb i (b :: bs) = keep1 b (inN i kb) :: keepB kb (i + 1) bs := by
  simp only [keepB]
  cases inN i kb <;> rfl
theorem keep1_t (b : Blk) : keep1 b true = b := rfl
theorem keep1_f (b : Blk) : keep1 b false = .gone := rfl
theorem omap_some {α β : Type} (f : α → β) (x : α) : Option.map f (some x) = some (f x) := rfl
attribute [go_sem] Xm_ti gt_mapTm mapB_row mapB_var mapB_gone mapV_t mapV_nl mapV_e0 mapV_row mapV_ptr mapV_agg mapV_tup markT_sl markT_i markT_b markT_s markT_agg markT_inn keepB_nil keepB_cons keep1_t keep1_f omap_some List.map_cons List.map_nil List.cons_append List.nil_append
section
variable {P : Program} {f : Ex → S → Prop} {k : Kont} {s : S} {lf : Lock f}
end
theorem HpR_nil {D : Nat → Prop} {hp' : List Blk} (h : HpR D [] hp') : hp' = [] := List.length_eq_zero_iff.1 h.1
theorem HpR_cons {D : Nat → Prop} {b : Blk} {hp hp' : List Blk} (h : HpR D (b :: hp) hp') : ∃ b' hp'', hp' = b' :: hp'' ∧ BlkR D b b' ∧ HpR D hp hp'' := by
  obtain ⟨h1, h2⟩ := h
  cases hp' with
  | nil => simp at h1
  | cons b' hp'' => exact ⟨b', hp'', rfl, h2 0 b b' rfl rfl, by simpa using h1, fun i x y hx hy => h2 (i + 1) x y (by simpa using hx) (by simpa using hy)⟩
end Go.Proofs.YtgkmhmhbepfiaaaDoor.Pm
set_option linter.all false
namespace Go.Proofs.YtgkmhmhbepfiaaaDoor.Pm
open Go Go.RowKit
theorem Xc_ti (P : Program) : (Xc P).ti = (Xof P).ti := rfl
theorem Xl_ti (P : Program) (N : Nat) : (Xl P N).ti = (Xof P).ti := rfl
theorem s0m_eq (N : Nat) (ts : List T) (n : Nat) : s0m N ts n = ⟨mapTm (markT fun b => b < N) (ofL (ts.map fun x => some (arg0 x))), []⟩ := rfl
attribute [go_sem] Xc_ti Xl_ti s0m_eq
section
variable {P : Program} {f : Ex → S → Prop} {k : Kont} {s : S} {lf : Lock f}
def HK4a (P : Program) (cl : Call) (d : Nat) (suf : List I) (f : Ex → S → Prop) (k : Kont) (s1 : S) (_ : Lock (f, k, suf, cl)) : Prop :=
    ∃ fo vs g ts0 ts z es n, cl.callee = .value fo ∧ ev s1.tm fo = some (.fn g []) ∧ evs s1.tm cl.args.toList = some vs ∧ argsOK (lk s1.hp) vs ts0 ∧ bares ts0 ts ∧ SpecS P g ts z es n ∧
      ∀ D : Nat → Prop, Ok (Xof P) (fun _ s' => Rk (Xc P) f k .n s' .mk) .base suf ⟨up (mapTm (markT (fun b => ¬ D b)) s1.tm) d (some ((AV.row 0 0 0 n).sh s1.hp.length)), s1.hp.map (mapB (markT (fun b => ¬ D b))) ++ [.row 0 z (es D) true]⟩ .mk
theorem hk4_k (pre : List I) (d : Nat) (cl : Call) (suf : List I) {l : List I} (hl : l = pre ++ ⟨some d, .call cl, none⟩ :: suf) (h : Ok (Xof P) (fun _ s1 => HK4a P cl d suf f k s1 .mk) .base pre s .mk) : Hk (Xc P) f k 4 l s lf := ⟨pre, d, cl, suf, hl, h⟩
theorem hk4_call {cl : Call} {d : Nat} {suf : List I} {tm : Tm} {hp : List Blk} {lo : Lock (f, k, suf, cl)} {fo : Operand} {vs : List AV} {g : Nat} {ts0 ts : List T} {z n : Nat} {es : (Nat → Prop) → List (List T)} (hs : SpecS P g ts z es n)
    (hk : ∀ D : Nat → Prop, Ok (Xof P) (fun _ s' => Rk (Xc P) f k .n s' .mk) .base suf ⟨up (mapTm (markT (fun b => ¬ D b)) tm) d (some ((AV.row 0 0 0 n).sh hp.length)), hp.map (mapB (markT (fun b => ¬ D b))) ++ [.row 0 z (es D) true]⟩ .mk)
    (hcl : cl.callee = .value fo) (hf : ev tm fo = some (.fn g [])) (hvs : evs tm cl.args.toList = some vs) (ha : argsOK (lk hp) vs ts0) (hb : bares ts0 ts) : HK4a P cl d suf f k ⟨tm, hp⟩ lo :=
  ⟨fo, vs, g, ts0, ts, z, es, n, hcl, hf, hvs, ha, hb, hs, hk⟩
def HK5c (P : Program) (t : Nat) (p u : Operand) (f : Ex → S → Prop) (k : Kont) (s1 : S) (_ : Lock (f, k)) : Prop :=
    ∃ (D : Nat → Prop) (n0 : Int) (cs : List T) (b : BitVec 8) (l2 : Bool) (ks : List Nat), (∃ i, (Xof P).ti t = some i ∧ i.sz = 1) ∧ ev s1.tm p = some (.t (.inn D (.pt (.i .u8 n0 :: cs))) true) ∧ ev s1.tm u = some (.t (.i .u8 b.toNat) l2) ∧
      (∀ t ∈ ks, ∀ v, gt s1.tm t = some v → safeV D v) ∧ (∀ b ∈ s1.hp, fineB D b) ∧ ∀ hp', HpR D s1.hp hp' → Rk (Xc P) f k .n ⟨mapTm T.bare1 (restr s1.tm ks), hp'.map (mapB T.bare1)⟩ .mk
theorem hk5_k (pre : List I) (t : Nat) (p u : Operand) {l : List I} (hl : l = pre ++ [⟨none, .store t p u, none⟩]) (h : Ok (Xof P) (fun _ s1 => HK5c P t p u f k s1 .mk) .base pre s .mk) : Hk (Xc P) f k 5 l s lf := ⟨pre, t, p, u, hl, h⟩
theorem hk5_store {t : Nat} {p u : Operand} {tm : Tm} {hp : List Blk} {lo : Lock (f, k)} (D : Nat → Prop) {n0 : Int} {cs : List T} {b : BitVec 8} {l2 : Bool} (ks : List Nat) {i : TI} (hti : (Xof P).ti t = some i) (hi : i.sz = 1)
    (hk : ∀ hp', HpR D hp hp' → Rk (Xc P) f k .n ⟨mapTm T.bare1 (restr tm ks), hp'.map (mapB T.bare1)⟩ .mk)
    (hp1 : ev tm p = some (.t (.inn D (.pt (.i .u8 n0 :: cs))) true)) (hu : ev tm u = some (.t (.i .u8 b.toNat) l2)) (hks : ∀ t ∈ ks, ∀ v, gt tm t = some v → safeV D v) (hf : ∀ b ∈ hp, fineB D b) : HK5c P t p u f k ⟨tm, hp⟩ lo :=
  ⟨D, n0, cs, b, l2, ks, ⟨i, hti, hi⟩, hp1, hu, hks, hf, hk⟩
def HK6a (P : Program) (f : Ex → S → Prop) (k : Kont) (mk : List Nat) (n : Nat) (s1 : S) (_ : Lock (f, k)) : Prop := Rk (Xc P) f k .n (cut mk n s1) .mk
theorem hk6_k (mk : List Nat) (n : Nat) {l : List I} (h : Ok (Xof P) (fun _ s1 => HK6a P f k mk n s1 .mk) .base l s .mk) : Hk (Xc P) f k 6 l s lf := ⟨mk, n, h⟩
theorem hk6_at {mk : List Nat} {n : Nat} {s1 s2 : S} {lo : Lock (f, k)} (e : cut mk n s1 = s2) (h : Rk (Xc P) f k .n s2 .mk) : HK6a P f k mk n s1 lo := by
  unfold HK6a
  rw [e]
  exact h
theorem bare1_inn (D : Nat → Prop) (x : T) : T.bare1 (.inn D x) = x := rfl
theorem bare1_i (k : IntKind) (n : Int) : T.bare1 (.i k n) = .i k n := rfl
theorem bare1_b (x : Bool) : T.bare1 (.b x) = .b x := rfl
theorem bare1_sl (es : List (List T)) : T.bare1 (.sl es) = .sl es := rfl
attribute [go_sem] bare1_inn bare1_i bare1_b bare1_sl
theorem hlk_k {N n : Nat} {ad : List (Nat × Nat)} {mk : List Nat} {c : C} {lo : Lock (f, k, c)} (h : HL P N ad mk c (fun e s' => Rk (Xl P N) f k e s' .mk) s) : Hlk (Xl P N) f k n ad mk c s lo := h
end
end Go.Proofs.YtgkmhmhbepfiaaaDoor.Pm
set_option linter.all false
set_option maxRecDepth 100000
set_option maxHeartbeats 4000000
namespace Go.Proofs.YtgkmhmhbepfiaaaDoor.Pm
open Go Go.RowKit
def lnM (D : Nat → Prop) (l : List Lnk) : List (List T) := l.map fun x => .inn D (.sl (bT x.data)) :: bN x.sum
theorem lnM_length (D : Nat → Prop) (l : List Lnk) : (lnM D l).length = l.length := by simp [lnM]
theorem lnM_get {D : Nat → Prop} {l : List Lnk} {k : Nat} (h : k < l.length) : (lnM D l)[k]? = some (.inn D (.sl (bT l[k].data)) :: bN l[k].sum) := by simp [lnM, h]
theorem bN_mark (D : Nat → Prop) (ws : List (BitVec 8)) : (bN ws).map (markT D) = bN ws := by
  unfold bN
  rw [List.map_map]
  rfl
theorem mapE_lnT (D : Nat → Prop) (l : List Lnk) : mapE (markT D) (lnT l) = lnM D l := by
  unfold mapE lnT lnM
  rw [List.map_map]
  refine List.map_congr_left fun x _ => ?_
  simp only [Function.comp, Lnk.E, List.map_cons, markT, bN_mark]
theorem bN_bare (ws : List (BitVec 8)) : (bN ws).map T.bare1 = bN ws := by
  unfold bN
  rw [List.map_map]
  rfl
theorem bare_lnM (D : Nat → Prop) (l : List Lnk) : T.bare (.sl (lnM D l)) = .sl (lnT l) := by
  simp only [T.bare, T.sl.injEq]
  unfold lnM lnT
  rw [List.map_map]
  refine List.map_congr_left fun x _ => ?_
  simp only [Function.comp, Lnk.E, List.map_cons, T.bare1, bN_bare]
theorem ne_sides {D : Nat → Prop} (h : D = (fun b => ¬ D b)) : False := by
  have h0 : D 0 = ¬ D 0 := congrFun h 0
  by_cases hd : D 0
  · exact (h0 ▸ hd) hd
  · exact hd (h0 ▸ hd)
theorem bN_safe {D : Nat → Prop} {ws : List (BitVec 8)} {c : T} (h : c ∈ bN ws) : ∃ k n, c = .i k n := by
  unfold bN at h
  simp only [List.mem_map] at h
  obtain ⟨b, _, rfl⟩ := h
  exact ⟨_, _, rfl⟩
theorem fine_lnM {D E : Nat → Prop} (hD : E = (fun b => ¬ D b) ∨ E = D) (l : List Lnk) (ver z : Nat) (f : Bool) : fineB D (.row ver z (lnM E l) f) := by
  intro e he c hc
  unfold lnM at he
  simp only [List.mem_map] at he
  obtain ⟨x, _, rfl⟩ := he
  rcases List.mem_cons.1 hc with rfl | hc
  · rcases hD with rfl | rfl
    · exact .inl rfl
    · exact .inr ⟨_, rfl⟩
  · obtain ⟨k, n, rfl⟩ := bN_safe (D := D) hc
    exact .inl rfl
theorem cellR_i {D : Nat → Prop} {k : IntKind} {n : Int} {c' : T} (h : cellR D (.i k n) c') : c' = .i k n := by
  rcases h with ⟨_, h⟩ | ⟨_, _, h, _⟩
  · exact h
  · cases h
theorem cellR_low {D : Nat → Prop} {x c' : T} (h : cellR D (.inn (fun b => ¬ D b) x) c') : c' = .inn (fun b => ¬ D b) x := by
  rcases h with ⟨_, h⟩ | ⟨bs, _, h, _⟩
  · exact h
  · simp only [T.inn.injEq] at h
    exact (ne_sides h.1.symm).elim
theorem bT_inj {a b : List (BitVec 8)} (h : bT a = bT b) : a = b := by
  unfold bT at h
  refine (List.map_inj_right (fun x y e => ?_)).1 h
  simp only [List.cons.injEq, T.i.injEq, true_and, and_true] at e
  exact BitVec.eq_of_toNat_eq (by exact_mod_cast e)
theorem cellR_high {D : Nat → Prop} {x : List (BitVec 8)} {c' : T} (h : cellR D (.inn D (.sl (bT x))) c') : ∃ y, c' = .inn D (.sl (bT y)) ∧ y.length = x.length := by
  rcases h with ⟨h, _⟩ | ⟨bs, bs', h, rfl, hl⟩
  · exact (ne_sides h).elim
  · simp only [T.inn.injEq, T.sl.injEq, true_and] at h
    rw [bT_inj h]
    exact ⟨bs', rfl, hl⟩
theorem row_sums {D : Nat → Prop} {ws : List (BitVec 8)} {e' : List T} (hl : e'.length = ws.length) (h : ∀ (j : Nat) (c c' : T), (bN ws)[j]? = some c → e'[j]? = some c' → cellR D c c') : e' = bN ws := by
  refine List.ext_getElem? fun j => ?_
  rcases Nat.lt_or_ge j ws.length with hj | hj
  · obtain ⟨c, hc⟩ := list_get (l := bN ws) (j := j) (by simpa [bN] using hj)
    obtain ⟨c', hc'⟩ := list_get (l := e') (j := j) (by omega)
    obtain ⟨k, n, rfl⟩ := bN_safe (D := D) (List.mem_of_getElem? hc)
    rw [hc, hc', cellR_i (h j _ _ hc hc')]
  · rw [List.getElem?_eq_none (by omega), List.getElem?_eq_none (by simpa [bN] using hj)]
theorem esR_low {D : Nat → Prop} {l : List Lnk} {es' : List (List T)} (h : EsR D (lnM (fun b => ¬ D b) l) es') : es' = lnM (fun b => ¬ D b) l := by
  obtain ⟨h1, h2⟩ := h
  rw [lnM_length] at h1
  refine List.ext_getElem? fun i => ?_
  rcases Nat.lt_or_ge i l.length with hi | hi
  · obtain ⟨e', he'⟩ := list_get (l := es') (j := i) (by omega)
    have he := lnM_get (D := fun b => ¬ D b) hi
    obtain ⟨q1, q2⟩ := h2 i _ e' he he'
    rw [he, he']
    cases e' with
    | nil => simp at q1
    | cons c e' =>
      rw [cellR_low (q2 0 _ c rfl rfl)]
      rw [row_sums (D := D) (ws := l[i].sum) (e' := e') (by simpa [bN] using q1) fun j c c' hc hc' => q2 (j + 1) c c' (by simpa using hc) (by simpa using hc')]
  · rw [List.getElem?_eq_none (by omega), List.getElem?_eq_none (by rw [lnM_length]; omega)]
def likeL (a b : List Lnk) : Prop := b.length = a.length ∧ ∀ k (h : k < a.length) (h' : k < b.length), b[k].sum = a[k].sum ∧ b[k].data.length = a[k].data.length
theorem likeL.refl (a : List Lnk) : likeL a a := ⟨rfl, fun _ _ _ => ⟨rfl, rfl⟩⟩
theorem likeL.trans {a b c : List Lnk} (h : likeL a b) (h' : likeL b c) : likeL a c := ⟨h'.1.trans h.1, fun k h1 h2 => by
  have hb : k < b.length := by rw [h.1]; exact h1
  exact ⟨((h'.2 k hb h2).1).trans (h.2 k h1 hb).1, ((h'.2 k hb h2).2).trans (h.2 k h1 hb).2⟩⟩
theorem esR_high {D : Nat → Prop} {l : List Lnk} {es' : List (List T)} (h : EsR D (lnM D l) es') : ∃ l', es' = lnM D l' ∧ likeL l l' := by
  obtain ⟨h1, h2⟩ := h
  rw [lnM_length] at h1
  obtain ⟨l', k1, k2⟩ := list_pick l (fun i x (x' : Lnk) => es'[i]? = some (.inn D (.sl (bT x'.data)) :: bN x'.sum) ∧ x'.sum = x.sum ∧ x'.data.length = x.data.length) (fun i x hx => by
    have hi := (List.getElem?_eq_some_iff.1 hx).1
    have hxe := (List.getElem?_eq_some_iff.1 hx).2
    obtain ⟨e', he'⟩ := list_get (l := es') (j := i) (by omega)
    have he := lnM_get (D := D) hi
    rw [hxe] at he
    obtain ⟨q1, q2⟩ := h2 i _ e' he he'
    cases e' with
    | nil => simp at q1
    | cons c e' =>
      obtain ⟨y, rfl, hy⟩ := cellR_high (q2 0 _ c rfl rfl)
      have := row_sums (D := D) (ws := x.sum) (e' := e') (by simpa [bN] using q1) fun j c c' hc hc' => q2 (j + 1) c c' (by simpa using hc) (by simpa using hc')
      refine ⟨⟨y, x.sum⟩, ?_, rfl, hy⟩
      rw [he', this])
  refine ⟨l', ?_, k1, fun k h h' => ?_⟩
  · refine List.ext_getElem? fun i => ?_
    rcases Nat.lt_or_ge i l.length with hi | hi
    · rw [(k2 i l[i] (l'[i]'(by omega)) (List.getElem?_eq_getElem hi) (List.getElem?_eq_getElem (by omega))).1, lnM_get (by omega)]
    · rw [List.getElem?_eq_none (by omega), List.getElem?_eq_none (by rw [lnM_length]; omega)]
  · exact (k2 k l[k] l'[k] (List.getElem?_eq_getElem h) (List.getElem?_eq_getElem h')).2
end Go.Proofs.YtgkmhmhbepfiaaaDoor.Pm
set_option linter.all false
set_option maxRecDepth 100000
set_option maxHeartbeats 4000000
namespace Go.Proofs.YtgkmhmhbepfiaaaDoor.Pm
open Go Go.RowKit
def c_twinS_body : C := (.seq (.seq (.seq (.reg ([⟨some 5, .move (.tmp 4), none⟩, ⟨some 6, .move (.tmp 0), none⟩, ⟨some 7, .call { callee := .builtin .len, args := #[(.tmp 6)], argTypes := #[56] }, none⟩, ⟨some 8, .binOp .lss 3 (.tmp 5) (.tmp 7) 3, none⟩])) (.keep [0, 3, 4, 8])) (.cond (.tmp 8) .skip (.exit 0))) (.seq (.block 1 (.seq (.draw ([⟨⟨some 11, .move (.tmp 3), none⟩, []⟩, ⟨⟨some 12, .buildSlice 22 0 #[], none⟩, [0]⟩, ⟨⟨some 13, .move (.tmp 0), none⟩, [0, 1]⟩, ⟨⟨some 14, .move (.tmp 4), none⟩, [0, 1, 2]⟩, ⟨⟨some 15, .indexAddr 56 (.tmp 13) (.tmp 14), none⟩, [0, 1]⟩, ⟨⟨some 16, .fieldAddr 64 (.tmp 15) 0, none⟩, [0, 1]⟩, ⟨⟨some 17, .load 22 (.tmp 16), none⟩, [0, 1]⟩, ⟨⟨some 18, .call { callee := .builtin .append, args := #[(.tmp 12), (.tmp 17)], argTypes := #[22, 22] }, none⟩, [0]⟩, ⟨⟨some 19, .move (.tmp 0), none⟩, [0, 1, 2, 3, 4, 5, 6, 7]⟩, ⟨⟨some 20, .move (.tmp 4), none⟩, [0, 1, 2, 3, 4, 5, 6, 7, 8]⟩, ⟨⟨some 21, .indexAddr 56 (.tmp 19) (.tmp 20), none⟩, [0, 1, 2, 3, 4, 5, 6, 7]⟩, ⟨⟨some 22, .fieldAddr 64 (.tmp 21) 1, none⟩, [0, 1, 2, 3, 4, 5, 6, 7]⟩, ⟨⟨some 23, .load 26 (.tmp 22), none⟩, [0, 1, 2, 3, 4, 5, 6, 7]⟩, ⟨⟨some 24, .build 64 #[(0, (.tmp 18)), (1, (.tmp 23))], none⟩, [0]⟩, ⟨⟨some 25, .buildSlice 56 1 #[(0, (.tmp 24))], none⟩, [0]⟩, ⟨⟨some 26, .call { callee := .builtin .append, args := #[(.tmp 11), (.tmp 25)], argTypes := #[56, 56] }, none⟩, []⟩, ⟨⟨some 3, .assign (.tmp 26), none⟩, []⟩])) (.keep [0, 3, 4]))) (.seq (.reg ([⟨some 9, .move (.tmp 4), none⟩, ⟨some 10, .binOp .add 3 (.tmp 9) (.const (.int .i64 1)) 3, none⟩, ⟨some 4, .assign (.tmp 10), none⟩])) (.keep [0, 3, 4]))))
attribute [go_sem ↓] c_twinS_body
def c_twinS : C := (.seq (.seq (.reg ([⟨some 2, .assign (.const (.slice none 0 0)), none⟩])) (.keep [0])) (.seq (.seq (.reg ([⟨some 3, .assign (.const (.slice none 0 0)), none⟩])) (.keep [0, 3])) (.seq (.seq (.seq (.reg ([⟨some 4, .assign (.const (.int .i64 0)), none⟩])) (.keep [0, 3, 4])) (.block 0 (.lsem 1 [(3, 33)] [0, 3, 4] c_twinS_body))) (.seq (.seq (.reg ([⟨some 27, .move (.tmp 3), none⟩, ⟨some 2, .assign (.tmp 27), none⟩])) (.keep [2])) .ret))))
attribute [go_sem ↓] c_twinS
def h_twinS : List Hint := [⟨[], [0], []⟩, ⟨[], [0, 3], []⟩, ⟨[], [0, 3, 4], []⟩, ⟨[(3, 33)], [0, 3, 4], [1]⟩, ⟨[], [0, 3, 4, 8], []⟩, ⟨[], [0, 3, 4], []⟩, ⟨[], [0, 3, 4], []⟩, ⟨[], [2], []⟩]
theorem b_twinS : Body Tryd.prog 33 [] h_twinS c_twinS 28 [.tmp 2] := body_of Tryd.func33 (by kernel_rfl) (by kernel_rfl) (by kernel_rfl) (by kernel_rfl)
def lnS (D : Nat → Prop) (k : Nat) (l : List Lnk) : List (List T) := lnM (fun b => ¬ D b) (l.take k) ++ lnM D (l.drop k)
theorem lnS_length (D : Nat → Prop) (k : Nat) (l : List Lnk) : (lnS D k l).length = l.length := by
  simp [lnS, lnM_length]
  omega
def elOf (l : List Lnk) (i : Nat) : List T := ((l[i]?).map Lnk.E).getD []
theorem elOf_get {l : List Lnk} {i : Nat} (h : i < l.length) : elOf l i = l[i].E := by simp [elOf, h]
theorem elsTo_lnT (l : List Lnk) : elsTo (elOf l) l.length = lnT l := by
  refine List.ext_getElem? fun i => ?_
  rcases Nat.lt_or_ge i l.length with h | h
  · rw [elsTo_get h, lnT_get h, elOf_get h]
  · rw [List.getElem?_eq_none (by rw [elsTo_length]; exact h), List.getElem?_eq_none (by rw [lnT_length]; exact h)]
theorem map_mark (D : Nat → Prop) (l : List Lnk) : (lnT l).map (fun e => e.map (markT D)) = lnM D l := mapE_lnT D l
theorem splitE_lnT (D : Nat → Prop) (k : Nat) (l : List Lnk) : splitE D k (lnT l) = lnS D k l := by
  unfold splitE lnS
  rw [show (lnT l).take k = lnT (l.take k) by simp [lnT, List.map_take], show (lnT l).drop k = lnT (l.drop k) by simp [lnT, List.map_drop], map_mark, map_mark]
theorem okSw_tmL {N : Nat} : ∀ {L : List (Nat × AV)}, (∀ p ∈ L, okSw N p.2) → ∀ {t : Nat} {v : AV}, tmL L t = some v → okSw N v
  | [], _, t, v, h => by cases h
  | (t0, v0) :: L, hL, t, v, h => by
    simp only [tmL, up] at h
    split at h
    · simp only [Option.some.injEq] at h
      subst h
      exact hL _ (List.mem_cons_self ..)
    · exact okSw_tmL (fun p hp => hL p (List.mem_cons_of_mem _ hp)) h
theorem s_TwinS (l : List Lnk) (hl : lnOK l) (h40 : l.length ≤ 50) (hd : ∀ x ∈ l, x.data.length ≤ 300) (k : Nat) (hk : k ≤ l.length) : SpecS Tryd.prog 33 [.sl (lnT l)] 33 (fun D => lnS D k l) l.length := by
  refine specS_of mixed b_twinS (fun D => lnS_length D k l) fun N => ?_
  show Wk (Xl Tryd.prog N) _ .base c_twinS _ .mk
  simp -implicitDefEqProofs only [go_sem, seval, sk]
  refine hlk_k ?_
  refine ⟨33, l.length, k, 0, elOf l, fun i => tmL [(0, .t (.inn (fun b => b < N) (.sl (lnT l))) false), (3, .row 0 i 0 i), (4, .t (.i .i64 i) true)], tmL [(0, .t (.inn (fun b => b < N) (.sl (lnT l))) false), (3, .row 0 l.length 0 l.length), (4, .t (.i .i64 l.length) true), (8, .t (.b false) true)], hk, fun i hi => ?_, by simp -implicitDefEqProofs only [go_sem, seval], fun i hi es he R hR => ?_, fun es he R hR => ?_, fun i t v ht => ?_, fun t v ht => ?_, fun D hD => ?_⟩
  · rw [elOf_get hi]
    exact ⟨E_len (lnOK_get hl hi), E_one _⟩
  · show Wk (Xof Tryd.prog) _ .base c_twinS_body _ .mk
    simp -implicitDefEqProofs only [go_sem, seval, sk]
    refine wcond_mk (fun hh => ?_) (fun hh => absurd (of_decide_eq_false hh) (by omega))
    have h32 := lnOK_get hl hi
    have hdk := hd _ (List.getElem_mem hi)
    have tdk : List.take l[i].data.length (bT l[i].data) = bT l[i].data := List.take_of_length_le (by rw [bT_length]; exact Nat.le_refl _)
    simp -implicitDefEqProofs only [go_sem, seval, sk, lnT_get hi, bN_take h32, h32, bN_mapF, embs_bF, tdk]
    refine ⟨⟨okEs_bT _, by unfold room; omega⟩, ⟨okEs_lnT (l := [l[i]]) (fun x hx => by rw [List.mem_singleton.1 hx]; exact h32), by omega, by unfold room; omega⟩, hR _ ?_⟩
    simp -implicitDefEqProofs only [go_sem, seval, wrap_i64_id (show -9223372036854775808 ≤ (i : Int) + 1 by omega) (by omega), Int.natCast_add]
    rw [List.take_of_length_le (show es.length ≤ i by omega), elOf_get hi]
    rfl
  · show Wk (Xof Tryd.prog) _ .base c_twinS_body _ .mk
    simp -implicitDefEqProofs only [go_sem, seval, sk]
    simp -implicitDefEqProofs only [go_sem, seval] at hR
    exact hR
  · refine okSw_tmL (fun p hp => ?_) ht
    simp only [List.mem_cons, List.not_mem_nil, or_false] at hp
    rcases hp with rfl | rfl | rfl
    · exact .inr ⟨_, rfl⟩
    · trivial
    · exact .inl rfl
  · refine okSw_tmL (fun p hp => ?_) ht
    simp only [List.mem_cons, List.not_mem_nil, or_false] at hp
    rcases hp with rfl | rfl | rfl | rfl
    · exact .inr ⟨_, rfl⟩
    · trivial
    · exact .inl rfl
    · exact .inl rfl
  · simp -implicitDefEqProofs only [go_sem, seval, sk]
    exact ⟨D, hD, (lnS_length D k l).symm, by rw [elsTo_lnT, splitE_lnT]⟩
end Go.Proofs.YtgkmhmhbepfiaaaDoor.Pm
set_option linter.all false
set_option maxRecDepth 100000
namespace Go.Proofs.YtgkmhmhbepfiaaaDoor.Pm
open Go Go.RowKit
theorem take_get {a b : List Lnk} {k j : Nat} (h : b.take k = a.take k) (hj : j < k) : b[j]? = a[j]? := by
  rw [← List.getElem?_take_of_lt hj, h, List.getElem?_take_of_lt hj]
theorem befV_pre {a b : List Lnk} {k j : Nat} (h : b.take k = a.take k) (hj : j ≤ k) : befV b j = befV a j := by
  unfold befV
  split
  · rfl
  · rw [take_get h (by omega)]
theorem okB_pre {a b : List Lnk} {k j : Nat} (h : b.take k = a.take k) (hj : j < k) : okB b j = okB a j := by
  unfold okB
  rw [take_get h hj, befV_pre h (Nat.le_of_lt hj)]
theorem firstV_pre {a b : List Lnk} {k : Nat} (hk : k < b.length) (h : b.take k = a.take k) (ha : ∀ j, j < k → okB a j = true) (hb : b[k].sum ≠ stepV (befV a k) k (ofV b[k].data)) : firstV b = k :=
  firstV_at hk (fun j hj => by rw [okB_pre h hj]; exact ha j hj) (by rw [okB_at hk, befV_pre h (Nat.le_refl _), beq_eq_false_iff_ne]; exact hb)
theorem firstV_data {a b : List Lnk} {k : Nat} (hk : k < a.length) (hk' : k < b.length) (h : b.take k = a.take k) (ha : ∀ j, j < k → okB a j = true) (hs : b[k].sum = a[k].sum) (hn : firstV b ≠ k) : stepV (befV a k) k (ofV b[k].data) = a[k].sum := by
  by_cases he : b[k].sum = stepV (befV a k) k (ofV b[k].data)
  · rw [← he, hs]
  · exact absurd (firstV_pre hk' h ha he) hn
theorem firstV_sum {a : List Lnk} {k : Nat} (hk : k < a.length) (ha : ∀ j, j ≤ k → okB a j = true) {s : List (BitVec 8)} (hs : s ≠ a[k].sum) : firstV (a.set k ⟨a[k].data, s⟩) = k := by
  have hk' : k < (a.set k ⟨a[k].data, s⟩).length := by simpa using hk
  refine firstV_pre hk' ?_ (fun j hj => ha j (Nat.le_of_lt hj)) ?_
  · rw [List.take_set_of_le (Nat.le_refl _)]
  · have h0 := ha k (Nat.le_refl _)
    rw [okB_at hk, beq_iff_eq] at h0
    simp only [List.getElem_set_self]
    rw [← h0]
    exact hs
theorem firstV_out {a : List Lnk} {k : Nat} (hk : k + 1 < a.length) (ha : ∀ j, j < k → okB a j = true) (hs : stepV (befV a k) k (ofV a[k + 1].data) ≠ a[k + 1].sum) : firstV (a.take k ++ a.drop (k + 1)) = k := by
  have hl : (a.take k).length = k := by simp; omega
  have hk' : k < (a.take k ++ a.drop (k + 1)).length := by simp; omega
  have hg : (a.take k ++ a.drop (k + 1))[k] = a[k + 1] := by
    rw [List.getElem_append_right (by omega)]
    simp [hl]
  refine firstV_pre hk' ?_ ha ?_
  · rw [List.take_append_of_le_length (by omega), List.take_of_length_le (by omega)]
  · rw [hg]
    exact fun h => hs h.symm
theorem firstV_swap {a : List Lnk} {k : Nat} (hk : k + 1 < a.length) (ha : ∀ j, j < k → okB a j = true) (hs : stepV (befV a k) k (ofV a[k + 1].data) ≠ a[k + 1].sum) : firstV ((a.set k a[k + 1]).set (k + 1) (a[k]'(by omega))) = k := by
  have hk' : k < ((a.set k a[k + 1]).set (k + 1) (a[k]'(by omega))).length := by simp; omega
  have hg : ((a.set k a[k + 1]).set (k + 1) (a[k]'(by omega)))[k] = a[k + 1] := by
    rw [List.getElem_set_ne (by omega)]
    simp
  refine firstV_pre hk' ?_ ha ?_
  · rw [List.take_set_of_le (by omega), List.take_set_of_le (Nat.le_refl _)]
  · rw [hg]
    exact fun h => hs h.symm
theorem checkV_of {a : List Lnk} (h : a.length ≤ 40) (hd : ∀ x ∈ a, x.data.length ≤ 200) : checkV a = 0 := checkV_ok (Nat.not_lt.2 h) fun j hj => hd _ (List.getElem_mem hj)
theorem fstV_of {a : List Lnk} (h : checkV a = 0) : fstV a = firstV a := if_pos h
theorem bN_set (ws : List (BitVec 8)) (i : Nat) (b : BitVec 8) : bN (ws.set i b) = (bN ws).set i (.i .u8 b.toNat) := by simp [bN, List.map_set]
theorem xor_ne {b c : BitVec 8} (h : c ≠ 0#8) : b ^^^ c ≠ b := by
  intro e
  apply h
  have : b ^^^ (b ^^^ c) = b ^^^ b := by rw [e]
  rw [← BitVec.xor_assoc, BitVec.xor_self, BitVec.zero_xor] at this
  exact this
theorem set_ne {ws : List (BitVec 8)} {i : Nat} (hi : i < ws.length) {b : BitVec 8} (h : b ≠ ws[i]) : ws.set i b ≠ ws := by
  intro e
  apply h
  have := congrArg (fun l => l[i]?) e
  simpa [hi] using this
theorem lnT_set {l : List Lnk} {k : Nat} (x : Lnk) : lnT (l.set k x) = (lnT l).set k x.E := by simp [lnT, List.map_set]
theorem id1s_bC0 : ∀ ws : List (BitVec 8), id1s (bC ws) = []
  | [] => rfl
  | b :: bs => by
    show id1s (_ :: bC bs) = _
    simp only [id1s, id1s_bC0 bs]
    rfl
theorem setT_sum (x : T) {ws : List T} {p : Nat} (hp : p < ws.length) (y : T) : setT (x :: ws) (1 + p * 1) [y] = x :: ws.set p y := by
  unfold setT
  rw [Nat.mul_one, Nat.add_comm 1 p, List.take_succ_cons, List.set_eq_take_append_cons_drop, if_pos hp]
  simp
theorem row_sum {L : List Lnk} {k p : Nat} (hk : k < L.length) (hp : p < L[k].sum.length) (b : BitVec 8) : (lnT L).set k (setT (.sl (bT L[k].data) :: bN L[k].sum) (1 + p * 1) [.i .u8 b.toNat]) = lnT (L.set k ⟨L[k].data, L[k].sum.set p b⟩) := by
  rw [lnT_set, setT_sum _ (by simpa [bN] using hp), ← bN_set]
  rfl
theorem setT_all {e new : List T} (h : e.length = new.length) : setT e 0 new = new := by
  unfold setT
  rw [List.take_zero, Nat.zero_add, List.nil_append, List.drop_of_length_le (by omega), List.append_nil]
theorem row_link {L : List Lnk} {k : Nat} {x y : Lnk} (hx : x.sum.length = 32) (hy : y.sum.length = 32) : (lnT L).set k (setT (.sl (bT x.data) :: bN x.sum) 0 (.sl (bT y.data) :: bN y.sum)) = lnT (L.set k y) := by
  rw [setT_all (by simp [bN, hx, hy]), lnT_set]
  rfl
theorem lnT_get2 {L : List Lnk} {k : Nat} {x : Lnk} (h : k + 1 < L.length) : (lnT (L.set k x))[k + 1]? = some (.sl (bT L[k + 1].data) :: bN L[k + 1].sum) := by
  rw [lnT_get (by rw [List.length_set]; exact h), List.getElem_set_ne (by omega)]
  rfl
theorem wrap_u8_nat (x : BitVec 8) : IntKind.u8.wrap (x.toNat : Int) = (x.toNat : Int) := by
  revert x
  decide
theorem xor_u8 (b c : BitVec 8) : IntKind.u8.wrap ((BitVec.ofInt IntKind.u8.bits (b.toNat : Int) ^^^ BitVec.ofInt IntKind.u8.bits (c.toNat : Int)).toNat : Int) = ((b ^^^ c).toNat : Int) := by
  have h : ∀ x : BitVec 8, BitVec.ofInt IntKind.u8.bits (x.toNat : Int) = x := fun x => by
    show BitVec.ofInt 8 (x.toNat : Int) = x
    simp
  rw [h b, h c]
  exact wrap_u8_nat (b ^^^ c)
theorem esR_append {D : Nat → Prop} {a b es' : List (List T)} (h : EsR D (a ++ b) es') : ∃ a' b', es' = a' ++ b' ∧ EsR D a a' ∧ EsR D b b' := by
  obtain ⟨h1, h2⟩ := h
  rw [List.length_append] at h1
  refine ⟨es'.take a.length, es'.drop a.length, (List.take_append_drop _ _).symm, ⟨by rw [List.length_take]; omega, fun i e e' he he' => ?_⟩, ⟨by rw [List.length_drop]; omega, fun i e e' he he' => ?_⟩⟩
  · have hi : i < a.length := (List.getElem?_eq_some_iff.1 he).1
    rw [List.getElem?_take_of_lt hi] at he'
    exact h2 i e e' (by rw [List.getElem?_append_left hi]; exact he) he'
  · rw [List.getElem?_drop] at he'
    exact h2 (a.length + i) e e' (by rw [List.getElem?_append_right (by omega), Nat.add_sub_cancel_left]; exact he) he'
theorem lnS_at (D : Nat → Prop) {k : Nat} {l : List Lnk} (hk : k < l.length) : (lnS D k l)[k]? = some (.inn D (.sl (bT l[k].data)) :: bN l[k].sum) := by
  unfold lnS
  rw [List.getElem?_append_right (by rw [lnM_length, List.length_take]; omega), lnM_length, List.length_take, Nat.min_eq_left (by omega), Nat.sub_self, lnM_get (by rw [List.length_drop]; omega)]
  simp
theorem fine_lnS (D : Nat → Prop) (k : Nat) (l : List Lnk) (ver z : Nat) (f : Bool) : fineB D (.row ver z (lnS D k l) f) := by
  intro e he
  rcases List.mem_append.1 he with h | h
  · exact fine_lnM (D := D) (.inl rfl) _ ver z f e h
  · exact fine_lnM (D := D) (.inr rfl) _ ver z f e h
theorem mapE_bare (E : Nat → Prop) (l : List Lnk) : mapE T.bare1 (lnM E l) = lnT l := by
  have := bare_lnM E l
  simp only [T.bare, T.sl.injEq] at this
  exact this
theorem esR_S {D : Nat → Prop} {k : Nat} {l : List Lnk} {es' : List (List T)} (h : EsR D (lnS D k l) es') : ∃ M, mapE T.bare1 es' = lnT M ∧ likeL l M ∧ M.take k = l.take k := by
  obtain ⟨a', b', rfl, h1, h2⟩ := esR_append h
  obtain rfl := esR_low h1
  obtain ⟨M2, rfl, h3⟩ := esR_high h2
  have hl3 := h3.1
  rw [List.length_drop] at hl3
  refine ⟨l.take k ++ M2, ?_, ⟨by rw [List.length_append, List.length_take, hl3]; omega, fun j hj hj' => ?_⟩, ?_⟩
  · unfold mapE
    rw [List.map_append]
    have e1 := mapE_bare (fun b => ¬ D b) (l.take k)
    have e2 := mapE_bare D M2
    unfold mapE at e1 e2
    rw [e1, e2, lnT_append]
  · rcases Nat.lt_or_ge j k with h4 | h4
    · rw [List.getElem_append_left (by rw [List.length_take]; omega), List.getElem_take]
      exact ⟨rfl, rfl⟩
    · have hjl : (l.take k).length ≤ j := by rw [List.length_take]; omega
      rw [List.getElem_append_right hjl]
      have hlt : (l.take k).length = k := by rw [List.length_take]; omega
      have := h3.2 (j - k) (by rw [List.length_drop]; omega) (by omega)
      simp only [List.getElem_drop, Nat.add_sub_cancel' h4] at this
      simp only [hlt]
      exact this
  · rcases Nat.le_total k l.length with h4 | h4
    · rw [List.take_append_of_le_length (by rw [List.length_take]; omega), List.take_take, Nat.min_self]
    · have : M2 = [] := List.length_eq_zero_iff.1 (by omega)
      rw [this, List.append_nil, List.take_take, Nat.min_self]
end Go.Proofs.YtgkmhmhbepfiaaaDoor.Pm
