/- The abstract machine, second part: the code as it is walked, and what is asked of a run of it ('W'). No law of Go's is stated here. -/
import Derived.Test.YtadnjellfiafaaaPmA
set_option linter.all false
namespace Go.Proofs.Ytadnjellfiafaaa.Pm
open Go

structure I where
  d : Option Nat
  op : Op
  g : Option (Nat × Bool)

/-- An operation of a statement that draws its order; which earlier operations it doesn't wait for. -/
structure D where
  i : I
  na : List Nat

inductive Ex where
  | n
  | x (id : Nat)
  | r
  | g (l : Nat)

inductive C where
  | skip
  | reg (l : List I)
  | draw (l : List D)
  | seq (a b : C)
  | cond (c : Operand) (a b : C)
  | block (id : Nat) (c : C)
  | keep (ts : List Nat)
  | loop (ad : List (Nat × Nat)) (mk : List Nat) (c : C)
  | exit (id : Nat)
  | ret
  | label
  | goto (l : Nat)
  | scope (ad : List (Nat × Nat)) (mk : List Nat) (c : C) (gs : List (Nat × C))

def upd1 (hp : List Blk) (u : Nat × Blk) : List Blk := if u.1 < hp.length then hp.set u.1 u.2 else hp ++ [u.2]
def upds (hp : List Blk) : List (Nat × Blk) → List Blk
  | [] => hp
  | u :: us => upds (upd1 hp u) us

def setT (e : List T) (j : Nat) (new : List T) : List T := e.take j ++ new ++ e.drop (j + new.length)

/-- An operation that writes: under which condition, and what becomes of the one block. -/
def qStore (ti : Nat → Option TI) (h : H) (t : Nat) (p u : AV) : Option (Prop × Nat × Blk) :=
  match ti t, u.cells with
  | some i, some cs => match p with
    | .ptr id off => match varOf h id with
      | some old => some (0 < i.sz ∧ cs.length = i.sz ∧ (∀ v ∈ cs, v.one) ∧ off + cs.length ≤ old.length, id, .var (setAt old off cs))
      | none => none
    | .eptr id ver k j => match rowOf h id ver, plains cs with
      | some (z, es, l), some (ys, l') => some (0 < i.sz ∧ cs.length = i.sz ∧ (∀ v ∈ cs, v.one) ∧ (es[k]?).isSome = true ∧ j + cs.length ≤ ((es[k]?).getD []).length,
          id, .row ver z (es.set k (setT ((es[k]?).getD []) j ys)) (l && l'))
      | _, _ => none
    | _ => none
  | _, _ => none
def qCopy (ti : Nat → Option TI) (h : H) (t : Nat) (p u : AV) : Option (Prop × AV × Nat × Blk) :=
  match p, elems h u, elemOfS ti t with
  | .vs id off len z, some (xs, l), some i => match varOf h id with
    | some old => some (i.sz = z ∧ 0 < z ∧ off + len * z ≤ old.length ∧ okEs z xs,
        .t (.i .i64 ((min xs.length len : Nat) : Int)) true, id, .var (setAt old off (((xs.take (min xs.length len)).flatten).map (AV.t · l))))
    | none => none
  | _, _, _ => none
def qw (ti : Nat → Option TI) (tm : Tm) (h : H) (d : Option Nat) (op : Op) : Option (Prop × Option AV × Nat × Blk) :=
  match op with
  | .store t a b => match d, ev tm a, ev tm b with
    | none, some p, some u => match qStore ti h t p u with
      | some (c, id, b) => some (c, none, id, b)
      | none => none
    | _, _, _ => none
  | .call c => match c.callee, evs tm c.args.toList, c.argTypes.toList with
    | .builtin .copy, some [p, u], [t, _] => match qCopy ti h t p u with
      | some (c, v, id, b) => some (c, some v, id, b)
      | none => none
    | _, _, _ => none
  | _ => none
def qst (x : Cx) (s : S) (d : Option Nat) (op : Op) : Option (Prop × S) :=
  match qw x.ti s.tm (lk s.hp) d op with
  | some (p, v, id, b) => some (p, ⟨pt s.tm d v, s.hp.set id b⟩)
  | none => none

def isSt : Op → Bool
  | .store .. => true
  | .call { callee := .builtin .copy, .. } => true
  | _ => false

/-- An argument that a rewriting leaves alone. -/
inductive Lock {α : Type} (a : α) : Type
  | mk
/-- Behind these the walk's own steps stand still: what follows is not looked at. -/
def wcall (x : Cx) (h : H) (n g : Nat) (as : List AV) (K : AV → List (Nat × Blk) → Prop) (_ : Lock K) : Prop := ∃ v us, Called x h n g as v us ∧ K v us
def wcond (y : Bool) (A B : Prop) (_ : Lock A) (_ : Lock B) : Prop := (y = true → A) ∧ (y = false → B)

def wq (x : Cx) (tm : Tm) (h : H) (n : Nat) (op : Op) (K : AV → List (Nat × Blk) → Prop) : Prop :=
  match callOf op with
  | some (f, as) => match ev tm f, evs tm as with
    | some (.fn g cap), some vs => wcall x h n g (vs ++ cap) K .mk
    | _, _ => False
  | none => match q x.ti tm h n op with
    | some (p, v, us) => p ∧ K v us
    | none => False

def wex (x : Cx) (i : I) (s : S) (K : S → Prop) : Prop :=
  match isSt i.op with
  | true => match qst x s i.d i.op with
    | some (p, s') => p ∧ K s'
    | none => False
  | false => wq x s.tm (lk s.hp) s.hp.length i.op fun v us => K ⟨pt s.tm i.d (some v), upds s.hp us⟩

def wops (x : Cx) : List I → S → (S → Prop) → Prop
  | [], s, K => K s
  | i :: r, s, K => match i.g with
    | none => wex x i s fun s' => wops x r s' K
    | some (t, want) => match gt s.tm t with
      | some (.t (.b y) _) => wcond (y == want) (wex x i s fun s' => wops x r s' K) (wops x r ⟨pt s.tm i.d (some (.tup [])), s.hp⟩ K) .mk .mk
      | some (.tup []) => wops x r ⟨pt s.tm i.d (some (.tup [])), s.hp⟩ K
      | _ => False

/-- The blocks that a value leads to. -/
def AV.id1 : AV → List Nat
  | .row id .. | .vs id .. | .ptr id .. | .eptr id .. => [id]
  | _ => []
def id1s : List AV → List Nat
  | [] => []
  | v :: vs => v.id1 ++ id1s vs
def AV.id2 : AV → List Nat
  | .agg cs => id1s cs
  | .fn _ cs => id1s cs
  | v => v.id1
def id2s : List AV → List Nat
  | [] => []
  | v :: vs => v.id2 ++ id2s vs
def AV.ids : AV → List Nat
  | .agg cs => id1s cs
  | .fn _ cs => id2s cs
  | v => v.id1
def idsO : Option AV → List Nat
  | some v => v.ids
  | none => []
def idsOs (tm : Tm) : List Operand → List Nat
  | [] => []
  | o :: os => idsO (ev tm o) ++ idsOs tm os
def idsPs (tm : Tm) : List (Nat × Operand) → List Nat
  | [] => []
  | (_, o) :: os => idsO (ev tm o) ++ idsPs tm os
/-- The blocks that an operation looks at. -/
def foot (tm : Tm) : Op → List Nat
  | .load _ a => idsO (ev tm a)
  | .slice _ a _ _ _ => idsO (ev tm a)
  | .indexAddr _ a _ => idsO (ev tm a)
  | .buildSlice _ _ ps => idsPs tm ps.toList
  | .convert _ _ a => idsO (ev tm a)
  | .store _ a b => idsO (ev tm a) ++ idsO (ev tm b)
  | .call c => (match c.callee with | .value f => idsO (ev tm f) | _ => []) ++ idsOs tm c.args.toList
  | _ => []
def inN (i : Nat) : List Nat → Bool
  | [] => false
  | j :: l => (i == j) || inN i l
/-- No number of the one list lies in the other. -/
def offN : List Nat → List Nat → Bool
  | [], _ => true
  | i :: l, m => !inN i m && offN l m
/-- What has come up so far: its number, the blocks that it turned, those that it looked at. -/
abbrev Lg := List (Nat × List Nat × List Nat)
/-- Those that one does not wait for are out of its way. -/
def free (na : List Nat) (ft us : List Nat) : Lg → Bool
  | [] => true
  | (k, w, f) :: lg => (!inN k na || (offN w ft && offN w us && offN f us)) && free na ft us lg

def fsts : List (Nat × Blk) → List Nat
  | [] => []
  | u :: us => u.1 :: fsts us
def wdraw (x : Cx) : List D → Nat → Lg → S → (S → Prop) → Prop
  | [], _, _, s, K => K s
  | o :: r, k, lg, s, K =>
    match isSt o.i.op with
    | true => match o.i.g, qw x.ti s.tm (lk s.hp) o.i.d o.i.op with
      | none, some (p, v, id, b) => p ∧ free o.na (foot s.tm o.i.op) [id] lg = true ∧ wdraw x r (k + 1) ((k, [id], foot s.tm o.i.op) :: lg) ⟨pt s.tm o.i.d v, s.hp.set id b⟩ K
      | _, _ => False
    | false =>
      match o.i.g with
      | none => wq x s.tm (lk s.hp) s.hp.length o.i.op fun v us => free o.na (foot s.tm o.i.op) (fsts us) lg = true ∧ wdraw x r (k + 1) ((k, fsts us, foot s.tm o.i.op) :: lg) ⟨pt s.tm o.i.d (some v), upds s.hp us⟩ K
      | some (t, want) => match gt s.tm t with
        | some (.t (.b y) _) => wcond (y == want)
          (wq x s.tm (lk s.hp) s.hp.length o.i.op fun v us => free o.na (foot s.tm o.i.op) (fsts us) lg = true ∧ wdraw x r (k + 1) ((k, fsts us, foot s.tm o.i.op) :: lg) ⟨pt s.tm o.i.d (some v), upds s.hp us⟩ K)
          (wdraw x r (k + 1) lg ⟨pt s.tm o.i.d (some (.tup [])), s.hp⟩ K) .mk .mk
        | some (.tup []) => wdraw x r (k + 1) lg ⟨pt s.tm o.i.d (some (.tup [])), s.hp⟩ K
        | _ => False

/-! ### A loop's head: what is kept of a state -/
def below (m : Nat) : AV → Bool
  | .row id .. | .vs id .. | .ptr id .. | .eptr id .. => decide (id < m)
  | .agg cs => cs.all fun | .row id .. | .vs id .. | .ptr id .. | .eptr id .. => decide (id < m) | .t .. | .nl | .e0 => true | _ => false
  | .t .. | .nl | .e0 => true
  | .fn _ cs => cs.all fun | .row id .. | .vs id .. | .ptr id .. | .eptr id .. => decide (id < m) | .t .. | .nl | .e0 => true | _ => false
  | .tup _ => false
def nilT : Tm := fun _ => none
/-- These slots alone. -/
def restr (tm : Tm) : List Nat → Tm
  | [] => nilT
  | t :: ts => up (restr tm ts) t (gt tm t)
/-- A row beyond is read as a tree. -/
def toT1 (m : Nat) (h : H) (v : AV) : AV := match below m v with
  | true => v
  | false => match emb h v with
    | some (x, l, _) => .t x l
    | none => v
def toT (m : Nat) (h : H) : AV → AV
  | .agg cs => .agg (cs.map (toT1 m h))
  | v => toT1 m h v
def belowV (m : Nat) (v : AV) : Option AV := if below m v = true then some v else none
def belowO (m : Nat) (h : H) : Option AV → Option AV
  | some v => belowV m (toT m h v)
  | none => none
def restrB (m : Nat) (h : H) (tm : Tm) : List Nat → Tm
  | [] => nilT
  | t :: ts => up (restrB m h tm ts) t (belowO m h (gt tm t))
def varB (m : Nat) (cs : List AV) : Blk := if cs.all (below m) = true then .var cs else .gone
def cutB (m : Nat) (h : H) : Blk → Blk
  | .var cs => varB m (cs.map (toT1 m h))
  | b => b
def cut (mk : List Nat) (m : Nat) (s : S) : S := ⟨restrB m (lk s.hp) s.tm mk, (s.hp.take m).map (cutB m (lk s.hp))⟩
def adopt : List (Nat × Nat) → S → S
  | [], s => s
  | (t, z) :: r, s => match gt s.tm t with
    | some .nl => if z = 0 then adopt r ⟨up s.tm t (some (.t (.sl []) true)), s.hp⟩ else adopt r ⟨up s.tm t (some (.row s.hp.length 0 0 0)), s.hp ++ [.row 0 z [] true]⟩
    | _ => adopt r s

/-- A row that was made within a loop takes the number of the one that stood in its slot before. -/
def mvs (tm : Tm) : List (Nat × Nat) → List (Nat × Nat)
  | [] => []
  | (t, _) :: r => match gt tm t with
    | some (.row id _ _ _) => (t, id) :: mvs tm r
    | _ => mvs tm r
def mv2 (t r len : Nat) (s : S) (id : Nat) : Option (Nat × List (List T) × Bool) → Option Blk → S
  | some (z, es, l), some (.row v0 _ _ _) => ⟨up s.tm t (some (.row r (v0 + 1) 0 len)), (s.hp.set id .gone).set r (.row (v0 + 1) z es l)⟩
  | _, _ => s
def mv1 (m t r : Nat) (s : S) : S := match gt s.tm t with
  | some (.row id ver off len) => if id < m ∨ m ≤ r ∨ off ≠ 0 then s else mv2 t r len s id (rowOf (lk s.hp) id ver) (lk s.hp r)
  | _ => s
def mvS (m : Nat) : List (Nat × Nat) → S → S
  | [], s => s
  | (t, r) :: l, s => mvS m l (mv1 m t r s)
def hdL (ad : List (Nat × Nat)) (mk : List Nat) (s0 s : S) : S := cut mk s0.hp.length (mvS s0.hp.length (mvs s0.tm ad) s)

def rounds (hd : S → S) (body : (Ex → S → Prop) → S → Prop) (K : Ex → S → Prop) : Nat → S → Prop
  | 0, _ => False
  | n + 1, s => body (fun e s' => match e with
    | .n => rounds hd body K n s'
    | e => K e s') (hd s)

def wloop (hd : S → S) (body : (Ex → S → Prop) → S → Prop) (K : Ex → S → Prop) (s : S) (_ : Lock body) (_ : Lock K) : Prop := ∃ n, rounds hd body K n s

/-- A stretch within which the run jumps: what holds at each label's jumps, with a number that goes down. -/
def wscope (hd : Nat → S → S) (bodies : Nat → Option ((Ex → S → Prop) → S → Prop)) (body : (Ex → S → Prop) → S → Prop) (K : Ex → S → Prop) (s : S) (_ : Lock bodies) (_ : Lock body) (_ : Lock K) : Prop :=
  ∃ J : Nat → Nat → S → Prop, body (fun e s' => match e with
    | .g l => ∃ n, J l n s'
    | e => K e s') s ∧ ∀ l n s, J l n s → ∃ m, match bodies l with
      | some b => b (fun e s' => match e with
        | .g l' => ∃ n', n' < n ∧ J l' n' s'
        | e => K e s') (hd m s)
      | none => False

mutual
def W (x : Cx) : C → (Ex → S → Prop) → S → Prop
  | .skip, K, s => K .n s
  | .label, K, s => K .n s
  | .keep ts, K, s => K .n ⟨restr s.tm ts, s.hp⟩
  | .reg l, K, s => wops x l s (K .n)
  | .draw l, K, s => wdraw x l 0 [] s (K .n)
  | .seq a b, K, s => W x a (fun e s' => match e with
    | .n => W x b K s'
    | e => K e s') s
  | .cond c a b, K, s => match ev s.tm c with
    | some (.t (.b y) _) => wcond y (W x a K s) (W x b K s) .mk .mk
    | _ => False
  | .block id c, K, s => W x c (fun e s' => match e with
    | .x j => if j = id then K .n s' else K (.x j) s'
    | e => K e s') s
  | .loop ad mk c, K, s => wloop (hdL ad mk (adopt ad s)) (W x c) K (adopt ad s) .mk .mk
  | .exit id, K, s => K (.x id) s
  | .ret, K, s => K .r s
  | .goto l, K, s => K (.g l) s
  | .scope ad mk c gs, K, s => wscope (fun m s => cut mk m (adopt ad s)) (Ws x gs) (W x c) K s .mk .mk .mk
def Ws (x : Cx) : List (Nat × C) → Nat → Option ((Ex → S → Prop) → S → Prop)
  | [], _ => none
  | (l, c) :: r, k => if l = k then some (W x c) else Ws x r k
end

theorem wcond_true (A B : Prop) (h : Lock A) (k : Lock B) : wcond true A B h k = A := by simp [wcond]
theorem wcond_false (A B : Prop) (h : Lock A) (k : Lock B) : wcond false A B h k = B := by simp [wcond]

section
variable (x : Cx) (K : Ex → S → Prop) (s : S)
theorem W_skip : W x .skip K s = K .n s := by simp only [W]
theorem W_keep (ts : List Nat) : W x (.keep ts) K s = K .n ⟨restr s.tm ts, s.hp⟩ := by simp only [W]
theorem W_label : W x .label K s = K .n s := by simp only [W]
theorem W_reg (l : List I) : W x (.reg l) K s = wops x l s (K .n) := by simp only [W]
theorem W_draw (l : List D) : W x (.draw l) K s = wdraw x l 0 [] s (K .n) := by simp only [W]
theorem W_seq (a b : C) : W x (.seq a b) K s = W x a (fun e s' => match e with
    | .n => W x b K s'
    | e => K e s') s := by simp only [W]
theorem W_cond (c : Operand) (a b : C) : W x (.cond c a b) K s = (match ev s.tm c with
    | some (.t (.b y) _) => wcond y (W x a K s) (W x b K s) .mk .mk
    | _ => False) := by simp only [W]
theorem W_block (id : Nat) (c : C) : W x (.block id c) K s = W x c (fun e s' => match e with
    | .x j => if j = id then K .n s' else K (.x j) s'
    | e => K e s') s := by simp only [W]
theorem W_loop (ad : List (Nat × Nat)) (mk : List Nat) (c : C) : W x (.loop ad mk c) K s = wloop (hdL ad mk (adopt ad s)) (W x c) K (adopt ad s) .mk .mk := by simp only [W]
theorem W_exit (id : Nat) : W x (.exit id) K s = K (.x id) s := by simp only [W]
theorem W_ret : W x .ret K s = K .r s := by simp only [W]
theorem W_scope (ad : List (Nat × Nat)) (mk : List Nat) (c : C) (gs : List (Nat × C)) : W x (.scope ad mk c gs) K s = wscope (fun m s => cut mk m (adopt ad s)) (Ws x gs) (W x c) K s .mk .mk .mk := by simp only [W]
theorem W_goto (l : Nat) : W x (.goto l) K s = K (.g l) s := by simp only [W]
end
theorem wops_nil (x : Cx) (s : S) (K : S → Prop) : wops x [] s K = K s := rfl
theorem wops_plain (x : Cx) (d : Option Nat) (op : Op) (r : List I) (s : S) (K : S → Prop) : wops x (⟨d, op, none⟩ :: r) s K = wex x ⟨d, op, none⟩ s fun s' => wops x r s' K := rfl
/-- A guard. -/
def wguard (v : Option AV) (want : Bool) (A B : Prop) (_ : Lock A) (_ : Lock B) : Prop :=
  match v with
  | some (.t (.b y) _) => wcond (y == want) A B .mk .mk
  | some (.tup []) => B
  | _ => False
theorem wguard_u (want : Bool) (A B : Prop) (h : Lock A) (k : Lock B) : wguard (some (.tup [])) want A B h k = B := rfl
theorem wguard_b (y l want : Bool) (A B : Prop) (h : Lock A) (k : Lock B) : wguard (some (.t (.b y) l)) want A B h k = wcond (y == want) A B h k := rfl
def wguard1 (v : Option AV) (A B : Prop) (_ : Lock A) (_ : Lock B) : Prop :=
  match v with
  | some (.t (.b y) _) => wcond y A B .mk .mk
  | _ => False
theorem wguard1_b (y l : Bool) (A B : Prop) (h : Lock A) (k : Lock B) : wguard1 (some (.t (.b y) l)) A B h k = wcond y A B h k := rfl
theorem W_cond' (x : Cx) (K : Ex → S → Prop) (s : S) (c : Operand) (a b : C) : W x (.cond c a b) K s = wguard1 (ev s.tm c) (W x a K s) (W x b K s) .mk .mk := by
  rw [W_cond]
  rfl
theorem wops_guard' (x : Cx) (d : Option Nat) (op : Op) (t : Nat) (want : Bool) (r : List I) (s : S) (K : S → Prop) : wops x (⟨d, op, some (t, want)⟩ :: r) s K =
    wguard (gt s.tm t) want (wex x ⟨d, op, some (t, want)⟩ s fun s' => wops x r s' K) (wops x r ⟨pt s.tm d (some (.tup [])), s.hp⟩ K) .mk .mk := rfl
end Go.Proofs.Ytadnjellfiafaaa.Pm
