/- The abstract machine: trees, abstract values, states, a small code, and what is asked of a run. No law of Go's is stated here. -/
import Derived.WalkKit
set_option linter.all false
namespace Go.Proofs.Ytadnjellfiafaaa.Pm
open Go

/-- What a value reads as: a tree. 'sl es': a slice of elements, each a list of cells (nil and empty are one). -/
inductive T where
  | i (k : IntKind) (n : Int)
  | b (x : Bool)
  | s (x : ByteArray)
  | sl (es : List (List T))
  | nl
  | ne
  | agg (cs : List T)
  | tup (vs : List T)
  | pt (cs : List T)
  | fn (f : Nat) (cap : List T)

/-- An abstract value. A Bool: 'in memory that this call has made'. -/
inductive AV where
  | t (x : T) (l : Bool)
  | nl
  | e0
  | row (id ver off len : Nat)
  | vs (id off len z : Nat)
  | ptr (id off : Nat)
  | eptr (id ver i j : Nat)
  | fn (f : Nat) (cap : List AV)
  | agg (cs : List AV)
  | tup (vs : List AV)

/-- A block of the call's own: a variable; a row that the slice values of one version show; a row that has been handed on. -/
inductive Blk where
  | var (cs : List AV)
  | row (ver z : Nat) (es : List (List T)) (l : Bool)
  | gone

/-- The slots. -/
abbrev Tm := Nat → Option AV
structure S where
  tm : Tm
  hp : List Blk

inductive Ty where
  | int (k : IntKind)
  | bool
  | str
  | ptr (e : Nat)
  | slice (e : Nat)
  | array (n e : Nat)
  | struct (fs : List (Nat × Nat))
  | other

/-- A type: its kind, its cells, its bytes, its zero value's cells. -/
structure TI where
  d : Ty
  sz : Nat
  nb : Nat
  z : List T

structure Cx where
  ti : Nat → Option TI
  spec : Nat → List T → List Blk → AV → Prop
  specAp : Nat → List (List T) → List T → List (List T) → Prop

/-! ### Numbers -/
def binI (op : BinOp) (k k' : IntKind) (a b : Int) : Option T :=
  match op with
  | .shl => if 0 ≤ b then some (.i k (k.wrap (a * 2 ^ (min b.toNat k.bits)))) else none
  | .shr => if 0 ≤ b then some (.i k (a.fdiv (2 ^ (min b.toNat k.bits)))) else none
  | .add => if k = k' then some (.i k (k.wrap (a + b))) else none
  | .sub => if k = k' then some (.i k (k.wrap (a - b))) else none
  | .mul => if k = k' then some (.i k (k.wrap (a * b))) else none
  | .quo => if k = k' then (if b = 0 then none else some (.i k (k.wrap (a.tdiv b)))) else none
  | .rem => if k = k' then (if b = 0 then none else some (.i k (a.tmod b))) else none
  | .and => if k = k' then some (.i k (k.wrap (BitVec.ofInt k.bits a &&& BitVec.ofInt k.bits b).toNat)) else none
  | .or => if k = k' then some (.i k (k.wrap (BitVec.ofInt k.bits a ||| BitVec.ofInt k.bits b).toNat)) else none
  | .xor => if k = k' then some (.i k (k.wrap (BitVec.ofInt k.bits a ^^^ BitVec.ofInt k.bits b).toNat)) else none
  | .andNot => if k = k' then some (.i k (k.wrap (BitVec.ofInt k.bits a &&& ~~~(BitVec.ofInt k.bits b)).toNat)) else none
  | .eql => if k = k' then some (.b (a == b)) else none
  | .neq => if k = k' then some (.b (a != b)) else none
  | .lss => if k = k' then some (.b (decide (a < b))) else none
  | .leq => if k = k' then some (.b (decide (a ≤ b))) else none
  | .gtr => if k = k' then some (.b (decide (a > b))) else none
  | .geq => if k = k' then some (.b (decide (a ≥ b))) else none

/-- '==' of two arrays of numbers and bools. -/
def eqCells : List T → List T → Option Bool
  | [], [] => some true
  | .i k a :: xs, .i k' b :: ys => if k = k' then (eqCells xs ys).map (fun r => (a == b) && r) else none
  | .b a :: xs, .b b :: ys => (eqCells xs ys).map (fun r => (a == b) && r)
  | _, _ => none

def binT (op : BinOp) (x y : T) : Option T :=
  match x, y with
  | .i k a, .i k' b => binI op k k' a b
  | .b a, .b b => match op with
    | .eql => some (.b (a == b))
    | .neq => some (.b (!(a == b)))
    | _ => none
  | .s a, .s b => match op with
    | .eql => some (.b (a.toList == b.toList))
    | .neq => some (.b (!(a.toList == b.toList)))
    | _ => none
  | .agg a, .agg b => match op with
    | .eql => (eqCells a b).map .b
    | .neq => (eqCells a b).map (fun r => .b (!r))
    | _ => none
  | _, _ => none

def unT (op : UnOp) (x : T) : Option T :=
  match op, x with
  | .neg, .i k n => some (.i k (k.wrap (0 - n)))
  | .xor, .i k n => some (.i k (k.wrap (BitVec.ofInt k.bits (if k.signed then -1 else k.max) ^^^ BitVec.ofInt k.bits n).toNat))
  | .not, .b x => some (.b !x)
  | _, _ => none

/-! ### Values -/
def cT : Value → Option T
  | .int k n => some (.i k n)
  | .bool x => some (.b x)
  | .string x => some (.s x)
  | .slice none 0 0 => some (.sl [])
  | _ => none

def cTs : List Value → Option (List T)
  | [] => some []
  | v :: vs => match cT v, cTs vs with
    | some x, some xs => some (x :: xs)
    | _, _ => none

def cAV : Value → Option AV
  | .slice none 0 0 => some .nl
  | .agg cs => (cTs cs.toList).map fun l => .t (.agg l) true
  | .int k n => some (.t (.i k n) true)
  | .bool x => some (.t (.b x) true)
  | .string x => some (.t (.s x) true)
  | _ => none

/-- A zero cell: a nil slice is known to be one. -/
def zAV : T → AV
  | .sl [] => .nl
  | x => .t x true

def gt (l : Tm) (t : Nat) : Option AV := l t
def up (l : Tm) (d : Nat) (v : Option AV) : Tm := fun t => if t = d then v else l t
def ofL (l : List (Option AV)) : Tm := fun t => (l[t]?).getD none
theorem gt_up (l : Tm) (d : Nat) (v : Option AV) (t : Nat) : gt (up l d v) t = if t = d then v else gt l t := rfl
theorem gt_ofL (l : List (Option AV)) (t : Nat) : gt (ofL l) t = (l[t]?).getD none := rfl
def lk (l : List Blk) (t : Nat) : Option Blk := l[t]?

def ev (tm : Tm) : Operand → Option AV
  | .tmp t => gt tm t
  | .const v => cAV v
  | .func f => some (.fn f [])
  | .global _ => none

def evs (tm : Tm) : List Operand → Option (List AV)
  | [] => some []
  | x :: xs => match ev tm x, evs tm xs with
    | some v, some vs => some (v :: vs)
    | _, _ => none

def pt (l : Tm) : Option Nat → Option AV → Tm
  | some d, v => up l d v
  | none, _ => l

def isAgg : Ty → Bool
  | .struct _ | .array _ _ => true
  | _ => false

abbrev H := Nat → Option Blk

def rowOf (h : H) (id ver : Nat) : Option (Nat × List (List T) × Bool) :=
  match h id with
  | some (.row v z es l) => if v = ver then some (z, es, l) else none
  | _ => none
def varOf (h : H) (id : Nat) : Option (List AV) :=
  match h id with
  | some (.var cs) => some cs
  | _ => none

/-- A cell or an aggregate of cells as a tree. -/
def AV.plain : AV → Option (T × Bool)
  | .t x l => some (x, l)
  | .nl => some (.sl [], true)
  | .e0 => some (.sl [], true)
  | _ => none
def plains : List AV → Option (List T × Bool)
  | [] => some ([], true)
  | v :: vs => match v.plain, plains vs with
    | some (x, l), some (xs, m) => some (x :: xs, l && m)
    | _, _ => none
def AV.pureT : AV → Option T
  | .t x _ => some x
  | .agg cs => (plains cs).map fun p => .agg p.1
  | _ => none

/-- The cells of an aggregate, or of a single value. -/
def AV.cells : AV → Option (List AV)
  | .agg cs => some cs
  | .t (.agg cs) l => some (cs.map (AV.t · l))
  | .t (.tup _) _ | .tup _ => none
  | v => some [v]

/-- What is read through a row is left to itself: its tree, and the rows that are handed on with it. -/
def emb (h : H) : AV → Option (T × Bool × List (Nat × Blk))
  | .t x l => some (x, l, [])
  | .nl => some (.sl [], true, [])
  | .e0 => some (.sl [], true, [])
  | .row id ver off len => match rowOf h id ver with
    | some (_, es, l) => if off + len ≤ es.length then some (.sl ((es.drop off).take len), l, [(id, .gone)]) else none
    | none => none
  | _ => none
def embs (h : H) : List AV → Option (List T × Bool × List (Nat × Blk))
  | [] => some ([], true, [])
  | v :: vs => match emb h v, embs h vs with
    | some (x, l, u), some (xs, m, us) => some (x :: xs, l && m, u ++ us)
    | _, _ => none

def emb2 (h : H) : AV → Option (T × Bool × List (Nat × Blk))
  | .agg cs => match embs h cs with
    | some (xs, l, us) => some (.agg xs, l, us)
    | none => none
  | v => emb h v

def room : Nat := 140737488355328

/-- One cell. -/
def T.one : T → Prop
  | .agg _ | .tup _ => False
  | _ => True
def AV.one : AV → Prop
  | .t x _ => x.one
  | .agg _ | .tup _ => False
  | _ => True
/-- Elements of z cells each. -/
def okEs (z : Nat) (es : List (List T)) : Prop := ∀ e ∈ es, e.length = z ∧ ∀ x ∈ e, x.one

/-- The elements of a slice value, each its cells: what 'append' and 'copy' read. -/
def chunk (z : Nat) : Nat → List T → List (List T)
  | 0, _ => []
  | n + 1, cs => cs.take z :: chunk z n (cs.drop z)
def elems (h : H) : AV → Option (List (List T) × Bool)
  | .t (.sl es) l => some (es, l)
  | .t .ne l => some ([], l)
  | .nl => some ([], true)
  | .e0 => some ([], true)
  | .row id ver off len => match rowOf h id ver with
    | some (_, es, l) => if off + len ≤ es.length then some ((es.drop off).take len, l) else none
    | none => none
  | .vs id off len z => match varOf h id with
    | some cs => match plains ((cs.drop off).take (len * z)) with
      | some (xs, l) => if off + len * z ≤ cs.length ∧ len ≤ room then some (chunk z len xs, l) else none
      | none => none
    | none => none
  | _ => none
def bytesOfStr (x : ByteArray) : List (List T) := x.data.toList.map fun c => [T.i .u8 c.toNat]

/-- An argument as a tree: what a callee that writes none of it may lean on. -/
def arg1 (h : H) : AV → T → Prop
  | .t x _, y => x = y
  | .nl, y => y = .sl [] ∨ y = .nl
  | .e0, y => y = .sl []
  | .row id ver off len, y => ∃ p, elems h (.row id ver off len) = some p ∧ y = .sl p.1
  | .vs id off len z, y => ∃ p, elems h (.vs id off len z) = some p ∧ 0 < z ∧ (∀ e ∈ p.1, e.length = z) ∧ y = .sl p.1
  | .ptr id off, y => ∃ cs p, varOf h id = some cs ∧ plains (cs.drop off) = some p ∧ y = .pt p.1
  | _, _ => False
def argCs (h : H) : List AV → List T → Prop
  | [], p => p = []
  | v :: vs, p => ∃ y ys, p = y :: ys ∧ arg1 h v y ∧ argCs h vs ys
def argOK (h : H) : AV → T → Prop
  | .agg cs, y => ∃ p, y = .agg p ∧ argCs h cs p
  | .fn f cap, y => ∃ p, y = .fn f p ∧ argCs h cap p
  | v, y => arg1 h v y
def argsOK (h : H) : List AV → List T → Prop
  | [], p => p = []
  | v :: vs, p => ∃ y ys, p = y :: ys ∧ argOK h v y ∧ argsOK h vs ys

/-- Does an argument lead to what may still be written? -/
def AV.loose : AV → Bool
  | .row .. | .vs .. | .ptr .. | .eptr .. => true
  | .agg cs => cs.any fun | .row .. | .vs .. | .ptr .. | .eptr .. => true | _ => false
  | .fn _ cs => !cs.isEmpty
  | _ => false
/-- Is a result, but for its rows, in new memory? -/
def AV.fresh : AV → Bool
  | .t _ l => l
  | .agg cs => cs.all fun | .t _ l => l | _ => true
  | .tup us => us.all fun | .t _ l => l | .agg cs => cs.all (fun | .t _ l => l | _ => true) | _ => true
  | _ => true
/-- A result's rows, numbered on from n. -/
def AV.sh1 (n : Nat) : AV → AV
  | .row id ver off len => .row (id + n) ver off len
  | v => v
def AV.sh2 (n : Nat) : AV → AV
  | .agg cs => .agg (cs.map (AV.sh1 n))
  | v => v.sh1 n
def AV.sh (n : Nat) : AV → AV
  | .tup us => .tup (us.map (AV.sh2 n))
  | v => v.sh2 n
def number (n : Nat) : List Blk → List (Nat × Blk)
  | [] => []
  | b :: bs => (n, b) :: number (n + 1) bs

/-- What is handed out as new, to be written into a literal. -/
def setAt (cs : List AV) (off : Nat) (new : List AV) : List AV := cs.take off ++ new ++ cs.drop (off + new.length)
def fieldOf (ti : Nat → Option TI) (t f : Nat) : Option (Nat × TI) :=
  match ti t with
  | some ⟨.struct fs, _, _, _⟩ => match fs[f]? with
    | some (o, ft) => (ti ft).map fun i => (o, i)
    | none => none
  | _ => none
def elemOfA (ti : Nat → Option TI) (t : Nat) : Option (Nat × TI) :=
  match ti t with
  | some ⟨.array n e, _, _, _⟩ => (ti e).map fun i => (n, i)
  | _ => none
def elemOfS (ti : Nat → Option TI) (t : Nat) : Option TI :=
  match ti t with
  | some ⟨.slice e, _, _, _⟩ => ti e
  | _ => none

def placeOf (ti : Nat → Option TI) (t k : Nat) : Option (Nat × Nat) :=
  match fieldOf ti t k with
  | some (o, i) => some (o, i.sz)
  | none => match elemOfA ti t with
    | some (_, i) => some (k * i.sz, i.sz)
    | none => none
/-- The cells of a literal. -/
def fills (ti : Nat → Option TI) (tm : Tm) (t : Nat) : List (Nat × Operand) → List AV → Option (List AV)
  | [], cs => some cs
  | (k, x) :: ps, cs => match ev tm x, placeOf ti t k with
    | some v, some (o, z) => match v.cells with
      | some new => if new.length = z ∧ o + z ≤ cs.length then fills ti tm t ps (setAt cs o new) else none
      | none => none
    | _, _ => none
def built (ti : Nat → Option TI) : Ty → Bool
  | .struct _ => true
  | .array _ e => (ti e).isSome
  | _ => false
/-- The elements of a slice literal; what is put into it is handed on. -/
def fillS (h : H) (tm : Tm) (z : Nat) : List (Nat × Operand) → List (List T) → Option (List (List T) × Bool × List (Nat × Blk))
  | [], es => some (es, true, [])
  | (k, x) :: ps, es => match ev tm x with
    | some v => match v.cells with
      | some cs => match embs h cs with
        | some (new, l, u) => if new.length = z ∧ k < es.length then (match fillS h tm z ps (es.set k new) with
            | some (es', l', u') => some (es', l && l', u ++ u')
            | none => none) else none
        | none => none
      | none => none
    | none => none

/-- What is asked of a slice expression's bounds. -/
def bound (tm : Tm) (d : Nat) : Option Operand → Option Int
  | none => some d
  | some x => match ev tm x with
    | some (.t (.i _ n) _) => some n
    | _ => none

/-- What an operation yields: under which condition, what value, and what becomes of blocks. -/
abbrev Res := Option (Prop × AV × List (Nat × Blk))

def okR (v : AV) : Res := some (True, v, [])
def atT (l : Bool) (o : Option T) : Res := some (o.isSome = true, .t (o.getD (.b false)) l, [])
def atA (o : Option AV) : Res := some (o.isSome = true, o.getD .nl, [])
/-- A part of an aggregate. -/
def partA (i : TI) (cs : List AV) (o : Nat) : Res :=
  match isAgg i.d with
  | true => some (o + i.sz ≤ cs.length, .agg ((cs.drop o).take i.sz), [])
  | false => atA cs[o]?
def partT (i : TI) (cs : List T) (o : Nat) (l : Bool) : Res :=
  match isAgg i.d with
  | true => some (o + i.sz ≤ cs.length, .t (.agg ((cs.drop o).take i.sz)) l, [])
  | false => atT l cs[o]?

def qLoad (ti : Nat → Option TI) (h : H) (t : Nat) (v : AV) : Res :=
  match ti t, v with
  | some i, .ptr id off => match varOf h id with
    | some cs => partA i cs off
    | none => none
  | some i, .t (.pt cs) l => partT i cs 0 l
  | some i, .eptr id ver k j => match rowOf h id ver with
    | some (_, es, l) => match partT i ((es[k]?).getD []) j l with
      | some (p, v, u) => some ((es[k]?).isSome = true ∧ p, v, u)
      | none => none
    | none => none
  | _, _ => none

def cut3 (n : Nat) (lo hi : Option Int) (mx : Option (Option Int)) : Option (Prop × Nat × Nat × Bool) :=
  match lo, hi, mx with
  | some p, some q, none => some (0 ≤ p ∧ p ≤ q ∧ q ≤ n, p.toNat, (q - p).toNat, false)
  | some p, some q, some (some m) => some (0 ≤ p ∧ p ≤ q ∧ q ≤ m ∧ m ≤ n, p.toNat, (q - p).toNat, decide (m = p))
  | _, _, _ => none

def qSlice (ti : Nat → Option TI) (tm : Tm) (h : H) (t : Nat) (v : AV) (lo hi mx : Option Operand) : Res :=
  let m3 := match mx, hi with
    | none, _ => none
    | some _, some _ => some (bound tm 0 mx)
    | some _, none => some none
  match v with
  | .t (.sl es) l => match elemOfS ti t, cut3 es.length (bound tm 0 lo) (bound tm es.length hi) m3 with
    | some i, some (p, o, n, e) => match e with
      | true => some (p, .e0, [])
      | false => some (p ∧ (o = 0 ∨ okEs i.sz es), .t (.sl ((es.drop o).take n)) l, [])
    | _, _ => none
  | .row id ver off len => match elemOfS ti t, rowOf h id ver, cut3 len (bound tm 0 lo) (bound tm len hi) m3 with
    | some i, some (z, _, _), some (p, o, n, _) => some (p ∧ z = i.sz, .row id ver (off + o) n, [])
    | _, _, _ => none
  | .nl => match elemOfS ti t, cut3 0 (bound tm 0 lo) (bound tm 0 hi) m3 with
    | some _, some (p, _, _, _) => some (p, .nl, [])
    | _, _ => none
  | .e0 => match elemOfS ti t, cut3 0 (bound tm 0 lo) (bound tm 0 hi) m3 with
    | some _, some (p, _, _, _) => some (p, .e0, [])
    | _, _ => none
  | .ptr id off => match elemOfA ti t, varOf h id, mx with
    | some (c, i), some cs, none => match cut3 c (bound tm 0 lo) (bound tm c hi) none with
      | some (p, o, n, _) => some (p ∧ off + c * i.sz ≤ cs.length, .vs id (off + o * i.sz) n i.sz, [])
      | none => none
    | _, _, _ => none
  | _ => none

def qIxA (ti : Nat → Option TI) (h : H) (t : Nat) (v : AV) (p : Int) : Res :=
  match v with
  | .t (.sl es) l => match elemOfS ti t with
    | some i => some (0 ≤ p ∧ (es[p.toNat]?).isSome = true ∧ ((es[p.toNat]?).getD []).length = i.sz ∧ 0 < i.sz, .t (.pt ((es[p.toNat]?).getD [])) l, [])
    | none => none
  | .row id ver off len => match elemOfS ti t, rowOf h id ver with
    | some i, some (z, es, _) => some (0 ≤ p ∧ p < len ∧ off + len ≤ es.length ∧ z = i.sz ∧ 0 < z, .eptr id ver (off + p.toNat) 0, [])
    | _, _ => none
  | .vs id off len z => match elemOfS ti t with
    | some i => some (0 ≤ p ∧ p < len ∧ z = i.sz, .ptr id (off + p.toNat * z), [])
    | none => none
  | .ptr id off => match elemOfA ti t with
    | some (c, i) => some (0 ≤ p ∧ p < c, .ptr id (off + p.toNat * i.sz), [])
    | none => none
  | .t (.pt cs) l => match elemOfA ti t with
    | some (c, i) => some (0 ≤ p ∧ p < c, .t (.pt (cs.drop (p.toNat * i.sz))) l, [])
    | none => none
  | .eptr id ver k j => match elemOfA ti t with
    | some (c, i) => some (0 ≤ p ∧ p < c, .eptr id ver k (j + p.toNat * i.sz), [])
    | none => none
  | _ => none

/-- Numbers lead nowhere. -/
def T.flat : T → Bool
  | .i .. | .b _ | .s _ => true
  | _ => false
def flats : List (List T) → Bool
  | [] => true
  | e :: es => e.all T.flat && flats es
def flagOf (xs : List (List T)) (l : Bool) : Bool := l || flats xs
def qAppend (ti : Nat → Option TI) (h : H) (n t : Nat) (v u : AV) : Res :=
  match elemOfS ti t, elems h u with
  | some i, some (xs, lx) => match v with
    | .nl | .e0 => some (0 < i.sz ∧ 0 < i.nb ∧ okEs i.sz xs ∧ xs.length * i.nb ≤ room, .row n 0 0 xs.length, [(n, .row 0 i.sz xs (flagOf xs lx))])
    | .row id ver off len => match rowOf h id ver with
      | some (z, es, l) => some (0 < i.sz ∧ 0 < i.nb ∧ okEs i.sz xs ∧ off = 0 ∧ len ≤ es.length ∧ z = i.sz ∧ (len + xs.length) * i.nb ≤ room,
          .row id (ver + 1) 0 (len + xs.length), [(id, .row (ver + 1) z (es.take len ++ xs) (l && flagOf xs lx))])
      | none => none
    | _ => none
  | _, _ => none

/-- Places onto nothing: 'append' of as many zeros. -/
def qGrow (ti : Nat → Option TI) (n t t' : Nat) (v u : AV) : Res :=
  match elemOfS ti t, ti t', v, u with
  | some i, some ⟨.int _, _, _, _⟩, .nl, .t (.i _ p) _ => some (0 < i.sz ∧ 0 < p ∧ p * i.nb ≤ room ∧ p ≤ room, .row n 0 0 p.toNat, [(n, .row 0 i.sz (List.replicate p.toNat i.z) true)])
  | _, _, _, _ => none

def lenOf : AV → Option Nat
  | .t (.sl es) _ => some es.length
  | .nl => some 0
  | .e0 => some 0
  | .row _ _ _ len => some len
  | .vs _ _ len _ => some len
  | _ => none
def qLen (ti : Nat → Option TI) (t : Nat) (v : AV) : Res :=
  match ti t, v with
  | some ⟨.str, _, _, _⟩, .t (.s y) _ => okR (.t (.i .i64 y.size) true)
  | some ⟨.slice e, _, _, _⟩, v => match lenOf v with
    | some n => okR (.t (.i .i64 n) true)
    | none => none
  | _, _ => none

def T.isI : T → Prop
  | .i _ _ => True
  | _ => False

/-- '==' of aggregates: of arrays of numbers alone. -/
def aggOK (ti : Nat → Option TI) (t : Nat) : T → Prop
  | .agg cs => match elemOfA ti t with
    | some (n, i) => cs.length = n ∧ i.sz = 1 ∧ (match i.d with | .int _ => True | _ => False) ∧ ∀ x ∈ cs, x.isI
    | none => False
  | .b _ => match ti t with
    | some ⟨.bool, _, _, _⟩ => True
    | _ => False
  | _ => True

def qBuiltin (ti : Nat → Option TI) (h : H) (n : Nat) (b : Builtin) (ts : List Nat) (vs : List AV) : Res :=
  match b with
  | .len => match ts, vs with
    | [t], [v] => qLen ti t v
    | _, _ => none
  | .cap => match ts, vs with
    | [t], [.nl] => match elemOfS ti t with
      | some _ => okR (.t (.i .i64 0) true)
      | none => none
    | [t], [.e0] => match elemOfS ti t with
      | some _ => okR (.t (.i .i64 0) true)
      | none => none
    | _, _ => none
  | .min => match vs with
    | [.t (.i k p) _, .t (.i _ r) _] => okR (.t (.i k (if r < p then r else p)) true)
    | _ => none
  | .max => match vs with
    | [.t (.i k p) _, .t (.i _ r) _] => okR (.t (.i k (if r > p then r else p)) true)
    | _ => none
  | .append => match ts, vs with
    | [t, t'], [v, u] => if t = t' then qAppend ti h n t v u else qGrow ti n t t' v u
    | _, _ => none
  | _ => none

/-- '== nil' of a slice. -/
def nilU (o : BinOp) : AV → Option Bool
  | .nl => match o with
    | .eql => some true
    | .neq => some false
    | _ => none
  | .t .ne _ => match o with
    | .eql => some false
    | .neq => some true
    | _ => none
  | .t (.sl (_ :: _)) _ => match o with
    | .eql => some false
    | .neq => some true
    | _ => none
  | _ => none
def nilQ (o : BinOp) (u : AV) : AV → Option Bool
  | .nl => nilU o u
  | _ => none
/-- All operations but calls of functions and those that write. -/
def q (ti : Nat → Option TI) (tm : Tm) (h : H) (n : Nat) (op : Op) : Res :=
  match op with
  | .move a | .assign a => match ev tm a with
    | some v => okR v
    | none => none
  | .pick c a b => match ev tm c with
    | some (.t (.b y) _) => match (if y = true then ev tm a else ev tm b) with
      | some v => okR v
      | none => none
    | _ => none
  | .alloc e => match ti e with
    | some i => some (True, .ptr n 0, [(n, .var (i.z.map zAV))])
    | none => none
  | .box _ a => match ev tm a with
    | some v => match v.cells with
      | some cs => some (True, .ptr n 0, [(n, .var cs)])
      | none => none
    | none => none
  | .build t ps => match ti t with
    | some i => match fills ti tm t ps.toList (i.z.map zAV) with
      | some cs => some (built ti i.d = true, .agg cs, [])
      | none => none
    | none => none
  | .buildSlice t len ps => match elemOfS ti t with
    | some i => match fillS h tm i.sz ps.toList (List.replicate len i.z) with
      | some (es, l, u) => some (len * i.sz ≤ 16777216 ∧ 0 < i.sz, .row n 0 0 len, u ++ [(n, .row 0 i.sz es l)])
      | none => none
    | none => none
  | .load t a => match ev tm a with
    | some v => qLoad ti h t v
    | none => none
  | .nilCheck a => match ev tm a with
    | some (.ptr id off) => okR (.ptr id off)
    | some (.eptr id ver k j) => okR (.eptr id ver k j)
    | some (.t (.pt cs) l) => okR (.t (.pt cs) l)
    | some (.fn f cap) => okR (.fn f cap)
    | _ => none
  | .binOp o t a b _ => match ev tm a, ev tm b with
    | some u, some v => match nilQ o u v with
      | some y => some ((elemOfS ti t).isSome = true, .t (.b y) true, [])
      | none => match u.pureT, v.pureT with
        | some p, some r => match binT o p r with
          | some y => some (aggOK ti t p, .t y true, [])
          | none => none
        | _, _ => none
    | _, _ => none
  | .unOp o _ a => match ev tm a with
    | some (.t p _) => match unT o p with
      | some y => okR (.t y true)
      | none => none
    | _ => none
  | .convert src dst a => match ti src, ti dst, ev tm a with
    | some _, some ⟨.int k, _, _, _⟩, some (.t (.i _ m) _) => okR (.t (.i k (k.wrap m)) true)
    | some ⟨.str, _, _, _⟩, some ⟨.slice e, _, _, _⟩, some (.t (.s y) _) => match ti e with
      | some ⟨.int .u8, _, _, _⟩ => some (y.size ≤ room, .t (.sl (bytesOfStr y)) true, [])
      | _ => none
    | some ⟨.slice _, _, _, _⟩, some ⟨.slice e, _, _, _⟩, some (.row id ver off len) => match ti e, emb h (.row id ver off len) with
      | some ⟨.int .u8, _, _, _⟩, some (x, l, us) => some (src = dst ∧ 0 < len, .t x l, us)
      | _, _ => none
    | _, _, _ => none
  | .makeFunc fn f0 cap => match fn, f0.toList, evs tm cap.toList with
    | .func f, [], some vs => okR (.fn f vs)
    | _, _, _ => none
  | .makeSlice t a b => match elemOfS ti t, ev tm a, ev tm b with
    | some i, some (.t (.i _ p) _), some (.t (.i _ r) _) => some (0 < i.sz ∧ 0 ≤ p ∧ p ≤ r ∧ r * i.nb ≤ room ∧ r ≤ room, .row n 0 0 p.toNat, [(n, .row 0 i.sz (List.replicate p.toNat i.z) true)])
    | _, _, _ => none
  | .slice t a lo hi mx => match ev tm a with
    | some v => qSlice ti tm h t v lo hi mx
    | none => none
  | .fieldAddr t a f => match ev tm a, fieldOf ti t f with
    | some (.ptr id off), some (o, i) => some (i.sz ≠ 0, .ptr id (off + o), [])
    | some (.t (.pt cs) l), some (o, i) => some (i.sz ≠ 0, .t (.pt (cs.drop o)) l, [])
    | some (.eptr id ver k j), some (o, i) => some (i.sz ≠ 0, .eptr id ver k (j + o), [])
    | _, _ => none
  | .field t a f => match ev tm a, fieldOf ti t f with
    | some (.t (.agg cs) l), some (o, i) => partT i cs o l
    | some (.agg cs), some (o, i) => partA i cs o
    | _, _ => none
  | .indexAddr t a b => match ev tm a, ev tm b with
    | some v, some (.t (.i _ p) _) => qIxA ti h t v p
    | _, _ => none
  | .index t a b => match ev tm a, ev tm b, elemOfA ti t with
    | some (.t (.agg cs) l), some (.t (.i _ p) _), some (c, i) => match partT i cs (p.toNat * i.sz) l with
      | some (r, v, u) => some (0 ≤ p ∧ p < c ∧ r, v, u)
      | none => none
    | some (.agg cs), some (.t (.i _ p) _), some (c, i) => match partA i cs (p.toNat * i.sz) with
      | some (r, v, u) => some (0 ≤ p ∧ p < c ∧ r, v, u)
      | none => none
    | _, _, _ => none
  | .extract a k => match ev tm a with
    | some (.t (.tup us) l) => atT l us[k]?
    | some (.tup us) => atA us[k]?
    | _ => none
  | .call c => match c.callee with
    | .builtin b => match evs tm c.args.toList with
      | some vs => qBuiltin ti h n b c.argTypes.toList vs
      | none => none
    | _ => none
  | _ => none

def callOf : Op → Option (Operand × List Operand)
  | .call c => match c.callee with
    | .value f => some (f, c.args.toList)
    | _ => none
  | _ => none

def Blk.fresh : Blk → Bool
  | .row _ _ _ l => l
  | _ => true
/-- A value that does not lead into a row's memory. -/
def AV.easy (id : Nat) : AV → Bool
  | .t .. | .nl | .e0 => true
  | .row id' .. => decide (id' ≠ id)
  | _ => false
/-- A call of a function of the program, by its contract: what comes in is left alone; or a row that is handed over is appended to. -/
inductive Called (x : Cx) (h : H) (n g : Nat) (as : List AV) : AV → List (Nat × Blk) → Prop
  | plain (ts : List T) (bs : List Blk) (r : AV) (ha : argsOK h as ts) (hs : x.spec g ts bs r) (hl : as.any AV.loose = true → r.fresh = true ∧ bs.all Blk.fresh = true) : Called x h n g as (r.sh n) (number n bs)
  | over (id ver len : Nat) (es : List (List T)) (l : Bool) (as' : List AV) (ts : List T) (ys : List (List T)) (e : as = .row id ver 0 len :: as') (hr : rowOf h id ver = some (1, es, l)) (hlen : len ≤ es.length) (hne : as'.all (AV.easy id) = true) (ha : argsOK h as' ts)
      (hs : x.specAp g (es.take len) ts ys) : Called x h n g as (.row id (ver + 1) 0 (len + ys.length)) [(id, .row (ver + 1) 1 (es.take len ++ ys) l)]
  | onto (as' : List AV) (ts : List T) (ys : List (List T)) (e : as = .nl :: as') (hne : as'.all (AV.easy n) = true) (ha : argsOK h as' ts) (hs : x.specAp g [] ts ys) : Called x h n g as (.row n 1 0 ys.length) [(n, .row 1 1 ys true)]
end Go.Proofs.Ytadnjellfiafaaa.Pm
