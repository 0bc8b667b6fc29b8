/- The abstract machine, twenty-third part: bodies; small rules for walks. No law of Go's is stated here. -/
import Derived.Test.YtadnjellfiafaaaPmW
set_option linter.all false
namespace Go.Proofs.Ytadnjellfiafaaa.Pm
open Go Go.RowKit

theorem body_of {P : Program} {f n : Nat} {fn : Func} {fl : List Nat} {hs : List Hint} {C : C} {res : List ResultVar} (hf : P.funcs[f]? = some fn) (ht : (fn.body.bind fun cd => tr n fl cd hs) = some (C, []))
    (hname : (fn.name == "runtime.NumGoroutine") = false) (hn : fn.ntmps = n) (hr : fn.results.toList = res) : Body P f fl hs C n res := by
  cases hb : fn.body with
  | none => rw [hb] at ht; cases ht
  | some cd =>
    rw [hb] at ht
    exact ⟨fn, cd, hf, hb, by simpa using hname, hn, hr, ht⟩

/-- The context in which a program's functions are walked: the contracts are those that hold. -/
noncomputable def Xof (P : Program) : Cx := ⟨tiOf P, Spec P, SpecAp P⟩
theorem hold {P : Program} (hm : P.follows .mixedOrders = true) : Hold P (Xof P) := ⟨tiOf_ok P, fun _ _ _ _ h => h, fun _ _ _ _ h => h, hm⟩

/-! ### Steps, what follows locked away -/
def wup (us : List (Nat × Blk)) (tm : Tm) (hp : List Blk) (K : S → Prop) (_ : Lock K) (_ : Lock tm) : Prop := K ⟨tm, upds hp us⟩
theorem wup_nil (tm : Tm) (hp : List Blk) (K : S → Prop) (l : Lock K) (k : Lock tm) : wup [] tm hp K l k = K ⟨tm, hp⟩ := rfl
theorem wup_cons (u : Nat × Blk) (us : List (Nat × Blk)) (tm : Tm) (hp : List Blk) (K : S → Prop) (l : Lock K) (k : Lock tm) : wup (u :: us) tm hp K l k = wup us tm (upd1 hp u) K l k := rfl
def wqv (r : Res) (K : AV → List (Nat × Blk) → Prop) (_ : Lock K) : Prop :=
  match r with
  | some (p, v, us) => p ∧ K v us
  | none => False
theorem wqv_some (p : Prop) (v : AV) (us : List (Nat × Blk)) (K : AV → List (Nat × Blk) → Prop) (l : Lock K) : wqv (some (p, v, us)) K l = (p ∧ K v us) := rfl
def wqc (f : Option AV) (as : Option (List AV)) (x : Cx) (h : H) (n : Nat) (K : AV → List (Nat × Blk) → Prop) (_ : Lock K) : Prop :=
  match f, as with
  | some (.fn g cap), some vs => wcall x h n g (vs ++ cap) K .mk
  | _, _ => False
theorem wqc_fn (g : Nat) (cap vs : List AV) (x : Cx) (h : H) (n : Nat) (K : AV → List (Nat × Blk) → Prop) (l : Lock K) : wqc (some (.fn g cap)) (some vs) x h n K l = wcall x h n g (vs ++ cap) K .mk := rfl
def wqs (co : Option (Operand × List Operand)) (x : Cx) (tm : Tm) (h : H) (n : Nat) (op : Op) (K : AV → List (Nat × Blk) → Prop) (_ : Lock K) (_ : Lock tm) (_ : Lock op) : Prop :=
  match co with
  | some (f, as) => wqc (ev tm f) (evs tm as) x h n K .mk
  | none => wqv (q x.ti tm h n op) K .mk
theorem wqs_some (f : Operand) (as : List Operand) (x : Cx) (tm : Tm) (h : H) (n : Nat) (op : Op) (K : AV → List (Nat × Blk) → Prop) (l : Lock K) (k : Lock tm) (j : Lock op) : wqs (some (f, as)) x tm h n op K l k j = wqc (ev tm f) (evs tm as) x h n K .mk := rfl
theorem wqs_none (x : Cx) (tm : Tm) (h : H) (n : Nat) (op : Op) (K : AV → List (Nat × Blk) → Prop) (l : Lock K) (k : Lock tm) (j : Lock op) : wqs none x tm h n op K l k j = wqv (q x.ti tm h n op) K .mk := rfl
def wst (r : Option (Prop × S)) (K : S → Prop) (_ : Lock K) : Prop :=
  match r with
  | some (p, s') => p ∧ K s'
  | none => False
theorem wst_some (p : Prop) (s' : S) (K : S → Prop) (l : Lock K) : wst (some (p, s')) K l = (p ∧ K s') := rfl
def wstep (b : Bool) (x : Cx) (d : Option Nat) (op : Op) (tm : Tm) (hp : List Blk) (K : S → Prop) (_ : Lock K) (_ : Lock tm) (_ : Lock op) : Prop :=
  match b with
  | true => wst (qst x ⟨tm, hp⟩ d op) K .mk
  | false => wqs (callOf op) x tm (lk hp) hp.length op (fun v us => wup us (pt tm d (some v)) hp K .mk .mk) .mk .mk .mk
theorem wstep_true (x : Cx) (d : Option Nat) (op : Op) (tm : Tm) (hp : List Blk) (K : S → Prop) (l : Lock K) (k : Lock tm) (j : Lock op) : wstep true x d op tm hp K l k j = wst (qst x ⟨tm, hp⟩ d op) K .mk := rfl
theorem wstep_false (x : Cx) (d : Nat) (op : Op) (tm : Tm) (hp : List Blk) (K : S → Prop) (l : Lock K) (k : Lock tm) (j : Lock op) : wstep false x (some d) op tm hp K l k j = wqs (callOf op) x tm (lk hp) hp.length op (fun v us => wup us (up tm d (some v)) hp K .mk .mk) .mk .mk .mk := rfl
theorem wstep_false' (x : Cx) (op : Op) (tm : Tm) (hp : List Blk) (K : S → Prop) (l : Lock K) (k : Lock tm) (j : Lock op) : wstep false x none op tm hp K l k j = wqs (callOf op) x tm (lk hp) hp.length op (fun v us => wup us tm hp K .mk .mk) .mk .mk .mk := rfl
theorem wex_step (x : Cx) (d : Option Nat) (op : Op) (g : Option (Nat × Bool)) (tm : Tm) (hp : List Blk) (K : S → Prop) : wex x ⟨d, op, g⟩ ⟨tm, hp⟩ K = wstep (isSt op) x d op tm hp K .mk .mk .mk := by
  unfold wex wstep
  cases isSt op
  · simp only [wq, wqs]
    cases callOf op <;> rfl
  · rfl
theorem wops_plain' (x : Cx) (d : Option Nat) (op : Op) (r : List I) (tm : Tm) (hp : List Blk) (K : S → Prop) : wops x (⟨d, op, none⟩ :: r) ⟨tm, hp⟩ K = wstep (isSt op) x d op tm hp (fun s' => wops x r s' K) .mk .mk .mk := by
  rw [wops_plain, wex_step]
theorem wops_guard2 (x : Cx) (d : Option Nat) (op : Op) (t : Nat) (want : Bool) (r : List I) (tm : Tm) (hp : List Blk) (K : S → Prop) : wops x (⟨d, op, some (t, want)⟩ :: r) ⟨tm, hp⟩ K =
    wguard (gt tm t) want (wstep (isSt op) x d op tm hp (fun s' => wops x r s' K) .mk .mk .mk) (wops x r ⟨pt tm d (some (.tup [])), hp⟩ K) .mk .mk := by
  rw [wops_guard', wex_step]

theorem rep0 {α : Type} (a : α) : List.replicate 0 a = [] := rfl
theorem rep1 {α : Type} (a : α) : List.replicate 1 a = [a] := rfl
theorem rep2 {α : Type} (a : α) : List.replicate 2 a = [a, a] := rfl
theorem rep3 {α : Type} (a : α) : List.replicate 3 a = [a, a, a] := rfl
theorem rep4 {α : Type} (a : α) : List.replicate 4 a = [a, a, a, a] := rfl
theorem rep5 {α : Type} (a : α) : List.replicate 5 a = [a, a, a, a, a] := rfl
theorem rep6 {α : Type} (a : α) : List.replicate 6 a = [a, a, a, a, a, a] := rfl
theorem rep7 {α : Type} (a : α) : List.replicate 7 a = [a, a, a, a, a, a, a] := rfl
theorem rep8 {α : Type} (a : α) : List.replicate 8 a = [a, a, a, a, a, a, a, a] := rfl
theorem rep9 {α : Type} (a : α) : List.replicate 9 a = [a, a, a, a, a, a, a, a, a] := rfl
theorem rep10 {α : Type} (a : α) : List.replicate 10 a = [a, a, a, a, a, a, a, a, a, a] := rfl
theorem rep11 {α : Type} (a : α) : List.replicate 11 a = [a, a, a, a, a, a, a, a, a, a, a] := rfl
theorem rep12 {α : Type} (a : α) : List.replicate 12 a = [a, a, a, a, a, a, a, a, a, a, a, a] := rfl
theorem not32' (x : BitVec 32) : BitVec.ofInt 32 IntKind.u32.max ^^^ x = ~~~x := by
  have : BitVec.ofInt 32 IntKind.u32.max = BitVec.allOnes 32 := by decide
  rw [this, BitVec.allOnes_xor]
def bT (bs : List (BitVec 8)) : List (List T) := bs.map fun b => [T.i .u8 b.toNat]
theorem bT_length (bs : List (BitVec 8)) : (bT bs).length = bs.length := by simp [bT]
theorem bT_get {bs : List (BitVec 8)} {k : Nat} (h : k < bs.length) : (bT bs)[k]? = some [.i .u8 bs[k].toNat] := by simp [bT, h]
theorem setAt_one {cs : List AV} {k : Nat} (v : AV) (hk : k < cs.length) : setAt cs k [v] = cs.set k v := by
  apply List.ext_getElem?
  intro j
  obtain ⟨h1, h2⟩ := setAt_get cs k [v] (by simp; omega)
  rw [h2 j]
  by_cases e : k = j
  · subst e; rw [if_pos (by simp), List.getElem?_set_self hk]; simp
  · rw [if_neg (by simp; omega), List.getElem?_set_ne e]
theorem setAt_all {cs : List AV} (new : List AV) (h : new.length = cs.length) : setAt cs 0 new = new := by simp [setAt, h]
theorem retT_r (ti : Nat → Option TI) (res : List ResultVar) (r : List (T × Bool)) (s : S) : retT ti res r .r s = (match resAV ti s res with
    | some (p, vs) => p ∧ sees (lk s.hp) vs r
    | none => False) := rfl
theorem retT_n (ti : Nat → Option TI) (res : List ResultVar) (r : List (T × Bool)) (s : S) : retT ti res r .n s = (match resAV ti s res with
    | some (p, vs) => p ∧ sees (lk s.hp) vs r
    | none => False) := rfl
theorem retT_x (ti : Nat → Option TI) (res : List ResultVar) (r : List (T × Bool)) (j : Nat) (s : S) : retT ti res r (.x j) s = False := rfl
theorem retR_r (ti : Nat → Option TI) (res : List ResultVar) (z : Nat) (es : List (List T)) (l : Bool) (s : S) : retR ti res z es l .r s = (match resAV ti s res with
    | some (p, [.row id ver off len]) => p ∧ off = 0 ∧ len = es.length ∧ (match rowOf (lk s.hp) id ver with
      | some (z', es', l') => z' = z ∧ es' = es ∧ (l = true → l' = true)
      | none => False)
    | _ => False) := rfl
theorem wcond_mk {y : Bool} {A B : Prop} {lA : Lock A} {lB : Lock B} (h1 : y = true → A) (h2 : y = false → B) : wcond y A B lA lB := ⟨h1, h2⟩
theorem wcall_mk {x : Cx} {h : H} {n g : Nat} {as : List AV} {K : AV → List (Nat × Blk) → Prop} {lK : Lock K} (ts : List T) (bs : List Blk) (r : AV) (hs : x.spec g ts bs r) (ha : argsOK h as ts)
    (hl : as.any AV.loose = true → r.fresh = true ∧ bs.all Blk.fresh = true) (hk : K (r.sh n) (number n bs)) : wcall x h n g as K lK := ⟨_, _, .plain ts bs r ha hs hl, hk⟩
end Go.Proofs.Ytadnjellfiafaaa.Pm
