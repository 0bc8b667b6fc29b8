/- The abstract machine, second part: the code as it is walked, and what is asked of a run of it ('W'). No law of Go's is stated here. -/
import Derived.Test.YtadnjellfiafaaaPmA
set_option linter.all false
namespace Go.Proofs.Ytadnjellfiafaaa.Pm
open Go

structure I where
  d : Option Nat
  op : Op
  g : Option (Nat × Bool)

/-- An operation of a statement that draws its order: may it take a row over; which earlier operations it doesn't wait for; are rows out of its sight. -/
structure D where
  i : I
  a : Bool
  na : List Nat
  rm : Bool

inductive Ex where
  | n
  | x (id : Nat)
  | r
  | g (l : Nat)

inductive C where
  | skip
  | reg (l : List I)
  | draw (l : List D)
  | seq (a b : C)
  | cond (c : Operand) (a b : C)
  | block (id : Nat) (c : C)
  | loop (ad : List (Nat × Nat)) (mk : List Bool) (c : C)
  | exit (id : Nat)
  | ret
  | label
  | goto (l : Nat)
  | scope (mk : List Bool) (c : C) (gs : List (Nat × C))

def upd1 (hp : List Blk) (u : Nat × Blk) : List Blk := if u.1 < hp.length then hp.set u.1 u.2 else hp ++ [u.2]
def upds (hp : List Blk) : List (Nat × Blk) → List Blk
  | [] => hp
  | u :: us => upds (upd1 hp u) us

def setT (e : List T) (j : Nat) (new : List T) : List T := e.take j ++ new ++ e.drop (j + new.length)

/-- An operation that writes. -/
def qStore (x : Cx) (s : S) (t : Nat) (p u : AV) : Option (Prop × S) :=
  match x.ti t, u.cells with
  | some i, some cs => match p with
    | .ptr id off => match varOf (lk s.hp) id with
      | some old => some (0 < i.sz ∧ cs.length = i.sz ∧ (∀ v ∈ cs, v.one) ∧ off + cs.length ≤ old.length, ⟨s.tm, s.hp.set id (.var (setAt old off cs))⟩)
      | none => none
    | .eptr id ver k j => match rowOf (lk s.hp) id ver, plains cs with
      | some (z, es, l), some (ys, l') => some (0 < i.sz ∧ cs.length = i.sz ∧ (∀ v ∈ cs, v.one) ∧ (es[k]?).isSome = true ∧ j + cs.length ≤ ((es[k]?).getD []).length,
          ⟨s.tm, s.hp.set id (.row ver z (es.set k (setT ((es[k]?).getD []) j ys)) (l && l'))⟩)
      | _, _ => none
    | _ => none
  | _, _ => none
def qCopy (x : Cx) (s : S) (d : Option Nat) (t : Nat) (p u : AV) : Option (Prop × S) :=
  match p, elems (lk s.hp) u, elemOfS x.ti t with
  | .vs id off len z, some (xs, l), some i => match varOf (lk s.hp) id with
    | some old => some (i.sz = z ∧ 0 < z ∧ off + len * z ≤ old.length ∧ okEs z xs,
        ⟨pt s.tm d (some (.t (.i .i64 ((min xs.length len : Nat) : Int)) true)), s.hp.set id (.var (setAt old off (((xs.take (min xs.length len)).flatten).map (AV.t · l))))⟩)
    | none => none
  | _, _, _ => none
def qst (x : Cx) (s : S) (d : Option Nat) (op : Op) : Option (Prop × S) :=
  match op with
  | .store t a b => match d, ev s.tm a, ev s.tm b with
    | none, some p, some u => qStore x s t p u
    | _, _, _ => none
  | .call c => match c.callee, evs s.tm c.args.toList, c.argTypes.toList with
    | .builtin .copy, some [p, u], [t, _] => qCopy x s d t p u
    | _, _, _ => none
  | _ => none

def isSt : Op → Bool
  | .store .. => true
  | .call { callee := .builtin .copy, .. } => true
  | _ => false

/-- An argument that a rewriting leaves alone. -/
inductive Lock {α : Type} (a : α) : Type
  | mk
/-- Behind these the walk's own steps stand still: what follows is not looked at. -/
def wcall (x : Cx) (h : H) (n g : Nat) (as : List AV) (K : AV → List (Nat × Blk) → Prop) (_ : Lock K) : Prop := ∃ v us, Called x h n g as v us ∧ K v us
def wcond (y : Bool) (A B : Prop) (_ : Lock A) (_ : Lock B) : Prop := (y = true → A) ∧ (y = false → B)

def wq (x : Cx) (tm : Tm) (h : H) (n : Nat) (op : Op) (K : AV → List (Nat × Blk) → Prop) : Prop :=
  match callOf op with
  | some (f, as) => match ev tm f, evs tm as with
    | some (.fn g cap), some vs => wcall x h n g (vs ++ cap) K .mk
    | _, _ => False
  | none => match q x.ti tm h n op with
    | some (p, v, us) => p ∧ K v us
    | none => False

def wex (x : Cx) (i : I) (s : S) (K : S → Prop) : Prop :=
  match isSt i.op with
  | true => match qst x s i.d i.op with
    | some (p, s') => p ∧ K s'
    | none => False
  | false => wq x s.tm (lk s.hp) s.hp.length i.op fun v us => K ⟨pt s.tm i.d (some v), upds s.hp us⟩

def wops (x : Cx) : List I → S → (S → Prop) → Prop
  | [], s, K => K s
  | i :: r, s, K => match i.g with
    | none => wex x i s fun s' => wops x r s' K
    | some (t, want) => match gt s.tm t with
      | some (.t (.b y) _) => wcond (y == want) (wex x i s fun s' => wops x r s' K) (wops x r ⟨pt s.tm i.d none, s.hp⟩ K) .mk .mk
      | _ => False

/-- What an operation of a drawn statement may look at. -/
def mask (hp : List Blk) (lg : List (Nat × List Nat)) (na : List Nat) (rm : Bool) : H := fun id =>
  if (lg.any fun p => na.contains p.1 && p.2.contains id) = true then none else match lk hp id with
    | some (.row v z es l) => if rm = true then none else some (.row v z es l)
    | b => b

def okUpd (hp : List Blk) (a : Bool) : List (Nat × Blk) → Bool
  | [] => true
  | u :: us => (a || decide (hp.length ≤ u.1)) && okUpd hp a us

def wdraw (x : Cx) : List D → Nat → List (Nat × List Nat) → S → (S → Prop) → Prop
  | [], _, _, s, K => K s
  | o :: r, k, lg, s, K =>
    match isSt o.i.op with
    | true => match o.i.g, qst x s o.i.d o.i.op with
      | none, some (p, s') => p ∧ wdraw x r (k + 1) lg s' K
      | _, _ => False
    | false =>
      match o.i.g with
      | none => wq x s.tm (mask s.hp lg o.na o.rm) s.hp.length o.i.op fun v us => okUpd s.hp o.a us = true ∧ wdraw x r (k + 1) ((k, us.map (·.1)) :: lg) ⟨pt s.tm o.i.d (some v), upds s.hp us⟩ K
      | some (t, want) => match gt s.tm t with
        | some (.t (.b y) _) => wcond (y == want)
          (wq x s.tm (mask s.hp lg o.na o.rm) s.hp.length o.i.op fun v us => okUpd s.hp o.a us = true ∧ wdraw x r (k + 1) ((k, us.map (·.1)) :: lg) ⟨pt s.tm o.i.d (some v), upds s.hp us⟩ K)
          (wdraw x r (k + 1) lg ⟨pt s.tm o.i.d none, s.hp⟩ K) .mk .mk
        | _ => False

/-! ### A loop's head: what is kept of a state -/
def below (m : Nat) : AV → Bool
  | .row id .. | .vs id .. | .ptr id .. | .eptr id .. => decide (id < m)
  | .agg cs => cs.all fun | .row id .. | .vs id .. | .ptr id .. | .eptr id .. => decide (id < m) | .t .. | .nl | .e0 => true | _ => false
  | .t .. | .nl | .e0 => true
  | .fn _ cs => cs.all fun | .row id .. | .vs id .. | .ptr id .. | .eptr id .. => decide (id < m) | .t .. | .nl | .e0 => true | _ => false
  | .tup _ => false
def keepL (m : Nat) (tm : Tm) : Nat → List Bool → List (Option AV)
  | _, [] => []
  | i, b :: bs => (match b with
    | true => (match gt tm i with
      | some v => if below m v = true then some v else none
      | none => none)
    | false => none) :: keepL m tm (i + 1) bs
def cutB (m : Nat) : Blk → Blk
  | .var cs => if cs.all (below m) = true then .var cs else .gone
  | b => b
def cut (mk : List Bool) (m : Nat) (s : S) : S := ⟨ofL (keepL m s.tm 0 mk), (s.hp.take m).map (cutB m)⟩
def adopt : List (Nat × Nat) → S → S
  | [], s => s
  | (t, z) :: r, s => match gt s.tm t with
    | some .nl => adopt r ⟨up s.tm t (some (.row s.hp.length 0 0 0)), s.hp ++ [.row 0 z [] true]⟩
    | _ => adopt r s

def rounds (hd : S → S) (body : (Ex → S → Prop) → S → Prop) (K : Ex → S → Prop) : Nat → S → Prop
  | 0, _ => False
  | n + 1, s => body (fun e s' => match e with
    | .n => rounds hd body K n s'
    | e => K e s') (hd s)

def wloop (hd : S → S) (body : (Ex → S → Prop) → S → Prop) (K : Ex → S → Prop) (s : S) (_ : Lock body) (_ : Lock K) : Prop := ∃ n, rounds hd body K n s

def leaps (hd : S → S) (bodies : Nat → Option ((Ex → S → Prop) → S → Prop)) (K : Ex → S → Prop) : Nat → ((Ex → S → Prop) → S → Prop) → S → Prop
  | 0, _, _ => False
  | n + 1, body, s => body (fun e s' => match e with
    | .g l => match bodies l with
      | some b => leaps hd bodies K n b (hd s')
      | none => False
    | e => K e s') s

mutual
def W (x : Cx) : C → (Ex → S → Prop) → S → Prop
  | .skip, K, s => K .n s
  | .label, K, s => K .n s
  | .reg l, K, s => wops x l s (K .n)
  | .draw l, K, s => wdraw x l 0 [] s (K .n)
  | .seq a b, K, s => W x a (fun e s' => match e with
    | .n => W x b K s'
    | e => K e s') s
  | .cond c a b, K, s => match ev s.tm c with
    | some (.t (.b y) _) => wcond y (W x a K s) (W x b K s) .mk .mk
    | _ => False
  | .block id c, K, s => W x c (fun e s' => match e with
    | .x j => if j = id then K .n s' else K (.x j) s'
    | e => K e s') s
  | .loop ad mk c, K, s => wloop (cut mk (adopt ad s).hp.length) (W x c) K (adopt ad s) .mk .mk
  | .exit id, K, s => K (.x id) s
  | .ret, K, s => K .r s
  | .goto l, K, s => K (.g l) s
  | .scope mk c gs, K, s => ∃ n, leaps (cut mk s.hp.length) (Ws x gs) K n (W x c) s
def Ws (x : Cx) : List (Nat × C) → Nat → Option ((Ex → S → Prop) → S → Prop)
  | [], _ => none
  | (l, c) :: r, k => if l = k then some (W x c) else Ws x r k
end

theorem wcond_true (A B : Prop) (h : Lock A) (k : Lock B) : wcond true A B h k = A := by simp [wcond]
theorem wcond_false (A B : Prop) (h : Lock A) (k : Lock B) : wcond false A B h k = B := by simp [wcond]

section
variable (x : Cx) (K : Ex → S → Prop) (s : S)
theorem W_skip : W x .skip K s = K .n s := by simp only [W]
theorem W_label : W x .label K s = K .n s := by simp only [W]
theorem W_reg (l : List I) : W x (.reg l) K s = wops x l s (K .n) := by simp only [W]
theorem W_draw (l : List D) : W x (.draw l) K s = wdraw x l 0 [] s (K .n) := by simp only [W]
theorem W_seq (a b : C) : W x (.seq a b) K s = W x a (fun e s' => match e with
    | .n => W x b K s'
    | e => K e s') s := by simp only [W]
theorem W_cond (c : Operand) (a b : C) : W x (.cond c a b) K s = (match ev s.tm c with
    | some (.t (.b y) _) => wcond y (W x a K s) (W x b K s) .mk .mk
    | _ => False) := by simp only [W]
theorem W_block (id : Nat) (c : C) : W x (.block id c) K s = W x c (fun e s' => match e with
    | .x j => if j = id then K .n s' else K (.x j) s'
    | e => K e s') s := by simp only [W]
theorem W_loop (ad : List (Nat × Nat)) (mk : List Bool) (c : C) : W x (.loop ad mk c) K s = wloop (cut mk (adopt ad s).hp.length) (W x c) K (adopt ad s) .mk .mk := by simp only [W]
theorem W_exit (id : Nat) : W x (.exit id) K s = K (.x id) s := by simp only [W]
theorem W_ret : W x .ret K s = K .r s := by simp only [W]
theorem W_goto (l : Nat) : W x (.goto l) K s = K (.g l) s := by simp only [W]
end
theorem wops_nil (x : Cx) (s : S) (K : S → Prop) : wops x [] s K = K s := rfl
theorem wops_plain (x : Cx) (d : Option Nat) (op : Op) (r : List I) (s : S) (K : S → Prop) : wops x (⟨d, op, none⟩ :: r) s K = wex x ⟨d, op, none⟩ s fun s' => wops x r s' K := rfl
/-- A guard. -/
def wguard (v : Option AV) (want : Bool) (A B : Prop) (_ : Lock A) (_ : Lock B) : Prop :=
  match v with
  | some (.t (.b y) _) => wcond (y == want) A B .mk .mk
  | _ => False
theorem wguard_b (y l want : Bool) (A B : Prop) (h : Lock A) (k : Lock B) : wguard (some (.t (.b y) l)) want A B h k = wcond (y == want) A B h k := rfl
def wguard1 (v : Option AV) (A B : Prop) (_ : Lock A) (_ : Lock B) : Prop :=
  match v with
  | some (.t (.b y) _) => wcond y A B .mk .mk
  | _ => False
theorem wguard1_b (y l : Bool) (A B : Prop) (h : Lock A) (k : Lock B) : wguard1 (some (.t (.b y) l)) A B h k = wcond y A B h k := rfl
theorem W_cond' (x : Cx) (K : Ex → S → Prop) (s : S) (c : Operand) (a b : C) : W x (.cond c a b) K s = wguard1 (ev s.tm c) (W x a K s) (W x b K s) .mk .mk := by
  rw [W_cond]
  rfl
theorem wops_guard' (x : Cx) (d : Option Nat) (op : Op) (t : Nat) (want : Bool) (r : List I) (s : S) (K : S → Prop) : wops x (⟨d, op, some (t, want)⟩ :: r) s K =
    wguard (gt s.tm t) want (wex x ⟨d, op, some (t, want)⟩ s fun s' => wops x r s' K) (wops x r ⟨pt s.tm d none, s.hp⟩ K) .mk .mk := rfl
theorem wops_guard (x : Cx) (d : Option Nat) (op : Op) (t : Nat) (want : Bool) (r : List I) (s : S) (K : S → Prop) : wops x (⟨d, op, some (t, want)⟩ :: r) s K = (match gt s.tm t with
      | some (.t (.b y) _) => wcond (y == want) (wex x ⟨d, op, some (t, want)⟩ s fun s' => wops x r s' K) (wops x r ⟨pt s.tm d none, s.hp⟩ K) .mk .mk
      | _ => False) := rfl
end Go.Proofs.Ytadnjellfiafaaa.Pm
