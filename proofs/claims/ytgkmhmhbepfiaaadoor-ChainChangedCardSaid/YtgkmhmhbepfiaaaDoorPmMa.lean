/- Texts of this proof in one file: PmAt, PmAg, PmA, PmB, PmC, PmD, PmE, PmF, PmG, PmH, PmI, PmJ. No law of Go's is stated here. -/
import Derived.WalkKit
import Derived.Laws.Cover3
import Derived.ChangeKeysEq
import Derived.Great.BuildSlice
set_option linter.all false
namespace Go.Proofs.YtgkmhmhbepfiaaaDoor.Pm
open Go
inductive T where
  | i (k : IntKind) (n : Int)
  | b (x : Bool)
  | s (x : ByteArray)
  | sl (es : List (List T))
  | nl
  | ne
  | agg (cs : List T)
  | tup (vs : List T)
  | pt (cs : List T)
  | fn (f : Nat) (cap : List T)
  | what
  | val (v : Value)
  | inn (D : Nat → Prop) (x : T)
def u32T (ks : List Int) : List T := ks.map fun k => .i .u32 k
end Go.Proofs.YtgkmhmhbepfiaaaDoor.Pm
set_option linter.all false
namespace Go.Proofs.YtgkmhmhbepfiaaaDoor.Pm
open Go
def kList : List Int := [1116352408, 1899447441, 3049323471, 3921009573, 961987163, 1508970993, 2453635748, 2870763221, 3624381080, 310598401, 607225278, 1426881987, 1925078388, 2162078206, 2614888103, 3248222580, 3835390401, 4022224774, 264347078, 604807628, 770255983, 1249150122, 1555081692, 1996064986, 2554220882, 2821834349, 2952996808, 3210313671, 3336571891, 3584528711, 113926993, 338241895, 666307205, 773529912, 1294757372, 1396182291, 1695183700, 1986661051, 2177026350, 2456956037, 2730485921, 2820302411, 3259730800, 3345764771, 3516065817, 3600352804, 4094571909, 275423344, 430227734, 506948616, 659060556, 883997877, 958139571, 1322822218, 1537002063, 1747873779, 1955562222, 2024104815, 2227730452, 2361852424, 2428436474, 2756734187, 3204031479, 3329325298]
def iList : List Int := [1779033703, 3144134277, 1013904242, 2773480762, 1359893119, 2600822924, 528734635, 1541459225]
def globT : Nat → Option (List T)
  | 1 => some (u32T kList)
  | 0 => some (u32T iList)
  | _ => none
theorem globT_k : globT 1 = some (u32T kList) := rfl
theorem globT_i : globT 0 = some (u32T iList) := rfl
end Go.Proofs.YtgkmhmhbepfiaaaDoor.Pm
set_option linter.all false
namespace Go.Proofs.YtgkmhmhbepfiaaaDoor.Pm
open Go
inductive AV where
  | t (x : T) (l : Bool)
  | nl
  | e0
  | row (id ver off len : Nat)
  | vs (id off len z : Nat)
  | ptr (id off : Nat)
  | eptr (id ver i j : Nat)
  | fn (f : Nat) (cap : List AV)
  | agg (cs : List AV)
  | tup (vs : List AV)
inductive Blk where
  | var (cs : List AV)
  | row (ver z : Nat) (es : List (List T)) (l : Bool)
  | gone
abbrev Tm := Nat → Option AV
structure S where
  tm : Tm
  hp : List Blk
inductive Ty where
  | int (k : IntKind)
  | bool
  | str
  | ptr (e : Nat)
  | slice (e : Nat)
  | array (n e : Nat)
  | struct (fs : List (Nat × Nat))
  | other
structure TI where
  d : Ty
  sz : Nat
  nb : Nat
  z : List T
structure I where
  d : Option Nat
  op : Op
  g : Option (Nat × Bool)
structure D where
  i : I
  na : List Nat
inductive Ex where
  | n
  | x (id : Nat)
  | r
  | g (l : Nat)
inductive C where
  | skip
  | reg (l : List I)
  | draw (l : List D)
  | sem (n : Nat) (l : List I)
  | seq (a b : C)
  | cond (c : Operand) (a b : C)
  | block (id : Nat) (c : C)
  | keep (ts : List Nat)
  | loop (ad : List (Nat × Nat)) (mk : List Nat) (c : C)
  | lsem (n : Nat) (ad : List (Nat × Nat)) (mk : List Nat) (c : C)
  | exit (id : Nat)
  | ret
  | label
  | goto (l : Nat)
  | scope (ad : List (Nat × Nat)) (mk : List Nat) (c : C) (gs : List (Nat × C))
structure Cx where
  ti : Nat → Option TI
  spec : Nat → List T → List Blk → AV → Prop
  specAp : Nat → List (List T) → List T → List (List T) → Prop
  hook : Nat → List I → S → (S → Prop) → Prop
  lhook : Nat → List (Nat × Nat) → List Nat → C → (Ex → S → Prop) → S → Prop
def binI (op : BinOp) (k k' : IntKind) (a b : Int) : Option T :=
  match op with
  | .shl => if 0 ≤ b then some (.i k (k.wrap (a * 2 ^ (min b.toNat k.bits)))) else none
  | .shr => if 0 ≤ b then some (.i k (a.fdiv (2 ^ (min b.toNat k.bits)))) else none
  | .add => if k = k' then some (.i k (k.wrap (a + b))) else none
  | .sub => if k = k' then some (.i k (k.wrap (a - b))) else none
  | .mul => if k = k' then some (.i k (k.wrap (a * b))) else none
  | .quo => if k = k' then (if b = 0 then none else some (.i k (k.wrap (a.tdiv b)))) else none
  | .rem => if k = k' then (if b = 0 then none else some (.i k (a.tmod b))) else none
  | .and => if k = k' then some (.i k (k.wrap (BitVec.ofInt k.bits a &&& BitVec.ofInt k.bits b).toNat)) else none
  | .or => if k = k' then some (.i k (k.wrap (BitVec.ofInt k.bits a ||| BitVec.ofInt k.bits b).toNat)) else none
  | .xor => if k = k' then some (.i k (k.wrap (BitVec.ofInt k.bits a ^^^ BitVec.ofInt k.bits b).toNat)) else none
  | .andNot => if k = k' then some (.i k (k.wrap (BitVec.ofInt k.bits a &&& ~~~(BitVec.ofInt k.bits b)).toNat)) else none
  | .eql => if k = k' then some (.b (a == b)) else none
  | .neq => if k = k' then some (.b (a != b)) else none
  | .lss => if k = k' then some (.b (decide (a < b))) else none
  | .leq => if k = k' then some (.b (decide (a ≤ b))) else none
  | .gtr => if k = k' then some (.b (decide (a > b))) else none
  | .geq => if k = k' then some (.b (decide (a ≥ b))) else none
def eqCells : List T → List T → Option Bool
  | [], [] => some true
  | .i k a :: xs, .i k' b :: ys => if k = k' then (eqCells xs ys).map (fun r => (a == b) && r) else none
  | .b a :: xs, .b b :: ys => (eqCells xs ys).map (fun r => (a == b) && r)
  | _, _ => none
def binT (op : BinOp) (x y : T) : Option T :=
  match x, y with
  | .i k a, .i k' b => binI op k k' a b
  | .b a, .b b => match op with
    | .eql => some (.b (a == b))
    | .neq => some (.b (!(a == b)))
    | _ => none
  | .s a, .s b => match op with
    | .eql => some (.b (a.toList == b.toList))
    | .neq => some (.b (!(a.toList == b.toList)))
    | _ => none
  | .agg a, .agg b => match op with
    | .eql => (eqCells a b).map .b
    | .neq => (eqCells a b).map (fun r => .b (!r))
    | _ => none
  | _, _ => none
def unT (op : UnOp) (x : T) : Option T :=
  match op, x with
  | .neg, .i k n => some (.i k (k.wrap (0 - n)))
  | .xor, .i k n => some (.i k (k.wrap (BitVec.ofInt k.bits (if k.signed then -1 else k.max) ^^^ BitVec.ofInt k.bits n).toNat))
  | .not, .b x => some (.b !x)
  | _, _ => none
def cT : Value → Option T
  | .int k n => some (.i k n)
  | .bool x => some (.b x)
  | .string x => some (.s x)
  | .slice none 0 0 => some (.sl [])
  | _ => none
def cTs : List Value → Option (List T)
  | [] => some []
  | v :: vs => match cT v, cTs vs with
    | some x, some xs => some (x :: xs)
    | _, _ => none
def cAV : Value → Option AV
  | .slice none 0 0 => some .nl
  | .agg cs => (cTs cs.toList).map fun l => .t (.agg l) true
  | .int k n => some (.t (.i k n) true)
  | .bool x => some (.t (.b x) true)
  | .string x => some (.t (.s x) true)
  | _ => none
def zAV : T → AV
  | .sl [] => .nl
  | x => .t x true
def gt (l : Tm) (t : Nat) : Option AV := l t
def up (l : Tm) (d : Nat) (v : Option AV) : Tm := fun t => if t = d then v else l t
def ofL (l : List (Option AV)) : Tm := fun t => (l[t]?).getD none
theorem gt_up (l : Tm) (d : Nat) (v : Option AV) (t : Nat) : gt (up l d v) t = if t = d then v else gt l t := rfl
theorem gt_ofL (l : List (Option AV)) (t : Nat) : gt (ofL l) t = (l[t]?).getD none := rfl
def lk (l : List Blk) (t : Nat) : Option Blk := l[t]?
def ev (tm : Tm) : Operand → Option AV
  | .tmp t => gt tm t
  | .const v => cAV v
  | .func f => some (.fn f [])
  | .global g => (globT g).map fun cs => .t (.pt cs) false
def evs (tm : Tm) : List Operand → Option (List AV)
  | [] => some []
  | x :: xs => match ev tm x, evs tm xs with
    | some v, some vs => some (v :: vs)
    | _, _ => none
def pt (l : Tm) : Option Nat → Option AV → Tm
  | some d, v => up l d v
  | none, _ => l
def isAgg : Ty → Bool
  | .struct _ | .array _ _ => true
  | _ => false
abbrev H := Nat → Option Blk
def rowOf (h : H) (id ver : Nat) : Option (Nat × List (List T) × Bool) :=
  match h id with
  | some (.row v z es l) => if v = ver then some (z, es, l) else none
  | _ => none
def varOf (h : H) (id : Nat) : Option (List AV) :=
  match h id with
  | some (.var cs) => some cs
  | _ => none
def AV.plain : AV → Option (T × Bool)
  | .t x l => some (x, l)
  | .nl => some (.sl [], true)
  | .e0 => some (.sl [], true)
  | _ => none
def plains : List AV → Option (List T × Bool)
  | [] => some ([], true)
  | v :: vs => match v.plain, plains vs with
    | some (x, l), some (xs, m) => some (x :: xs, l && m)
    | _, _ => none
def AV.pureT : AV → Option T
  | .t x _ => some x
  | .agg cs => (plains cs).map fun p => .agg p.1
  | _ => none
def AV.cells : AV → Option (List AV)
  | .agg cs => some cs
  | .t (.agg cs) l => some (cs.map (AV.t · l))
  | .t (.tup _) _ | .tup _ => none
  | v => some [v]
def T.flat : T → Bool
  | .i .. | .b _ | .s _ => true
  | _ => false
def emb (h : H) : AV → Option (T × Bool × List (Nat × Blk))
  | .t x l => some (x, l || x.flat, [])
  | .nl => some (.sl [], true, [])
  | .e0 => some (.sl [], true, [])
  | .row id ver off len => match rowOf h id ver with
    | some (_, es, l) => if off + len ≤ es.length then some (.sl ((es.drop off).take len), l, [(id, .gone)]) else none
    | none => none
  | _ => none
def embs (h : H) : List AV → Option (List T × Bool × List (Nat × Blk))
  | [] => some ([], true, [])
  | v :: vs => match emb h v, embs h vs with
    | some (x, l, u), some (xs, m, us) => some (x :: xs, l && m, u ++ us)
    | _, _ => none
def emb2 (h : H) : AV → Option (T × Bool × List (Nat × Blk))
  | .agg cs => match embs h cs with
    | some (xs, l, us) => some (.agg xs, l, us)
    | none => none
  | v => emb h v
def room : Nat := 140737488355328
def T.one : T → Prop
  | .agg _ | .tup _ => False
  | _ => True
def AV.one : AV → Prop
  | .t x _ => x.one
  | .agg _ | .tup _ => False
  | _ => True
def okEs (z : Nat) (es : List (List T)) : Prop := ∀ e ∈ es, e.length = z ∧ ∀ x ∈ e, x.one
def areBytes (es : List (List T)) : Prop := ∀ e ∈ es, ∃ n, e = [T.i .u8 n]
def byteOf : List T → Int
  | [.i _ n] => n
  | _ => 0
def strOf (es : List (List T)) : ByteArray := ⟨(es.map fun e => UInt8.ofNat (byteOf e).toNat).toArray⟩
def chunk (z : Nat) : Nat → List T → List (List T)
  | 0, _ => []
  | n + 1, cs => cs.take z :: chunk z n (cs.drop z)
def elems (h : H) : AV → Option (List (List T) × Bool)
  | .t (.sl es) l => some (es, l)
  | .t .ne l => some ([], l)
  | .nl => some ([], true)
  | .e0 => some ([], true)
  | .row id ver off len => match rowOf h id ver with
    | some (_, es, l) => if off + len ≤ es.length then some ((es.drop off).take len, l) else none
    | none => none
  | .vs id off len z => match varOf h id with
    | some cs => match plains ((cs.drop off).take (len * z)) with
      | some (xs, l) => if off + len * z ≤ cs.length ∧ len ≤ room then some (chunk z len xs, l) else none
      | none => none
    | none => none
  | _ => none
def bytesOfStr (x : ByteArray) : List (List T) := x.data.toList.map fun c => [T.i .u8 c.toNat]
def arg1 (h : H) : AV → T → Prop
  | .t x _, y => x = y
  | .nl, y => y = .sl [] ∨ y = .nl
  | .e0, y => y = .sl []
  | .row id ver off len, y => ∃ p, elems h (.row id ver off len) = some p ∧ y = .sl p.1
  | .vs id off len z, y => ∃ p, elems h (.vs id off len z) = some p ∧ 0 < z ∧ (∀ e ∈ p.1, e.length = z) ∧ y = .sl p.1
  | .ptr id off, y => ∃ cs p, varOf h id = some cs ∧ plains (cs.drop off) = some p ∧ y = .pt p.1
  | _, _ => False
def argCs (h : H) : List AV → List T → Prop
  | [], p => p = []
  | v :: vs, p => ∃ y ys, p = y :: ys ∧ arg1 h v y ∧ argCs h vs ys
def argOK (h : H) : AV → T → Prop
  | .agg cs, y => ∃ p, y = .agg p ∧ argCs h cs p
  | .fn f cap, y => ∃ p, y = .fn f p ∧ argCs h cap p
  | v, y => arg1 h v y
def argsOK (h : H) : List AV → List T → Prop
  | [], p => p = []
  | v :: vs, p => ∃ y ys, p = y :: ys ∧ argOK h v y ∧ argsOK h vs ys
def AV.loose : AV → Bool
  | .row .. | .vs .. | .ptr .. | .eptr .. => true
  | .agg cs => cs.any fun | .row .. | .vs .. | .ptr .. | .eptr .. => true | _ => false
  | .fn _ cs => !cs.isEmpty
  | _ => false
def AV.fresh : AV → Bool
  | .t _ l => l
  | .agg cs => cs.all fun | .t _ l => l | _ => true
  | .tup us => us.all fun | .t _ l => l | .agg cs => cs.all (fun | .t _ l => l | _ => true) | _ => true
  | _ => true
def AV.sh1 (n : Nat) : AV → AV
  | .row id ver off len => .row (id + n) ver off len
  | v => v
def AV.sh2 (n : Nat) : AV → AV
  | .agg cs => .agg (cs.map (AV.sh1 n))
  | v => v.sh1 n
def AV.sh (n : Nat) : AV → AV
  | .tup us => .tup (us.map (AV.sh2 n))
  | v => v.sh2 n
def number (n : Nat) : List Blk → List (Nat × Blk)
  | [] => []
  | b :: bs => (n, b) :: number (n + 1) bs
def setAt (cs : List AV) (off : Nat) (new : List AV) : List AV := cs.take off ++ new ++ cs.drop (off + new.length)
def fieldOf (ti : Nat → Option TI) (t f : Nat) : Option (Nat × TI) :=
  match ti t with
  | some ⟨.struct fs, _, _, _⟩ => match fs[f]? with
    | some (o, ft) => (ti ft).map fun i => (o, i)
    | none => none
  | _ => none
def elemOfA (ti : Nat → Option TI) (t : Nat) : Option (Nat × TI) :=
  match ti t with
  | some ⟨.array n e, _, _, _⟩ => (ti e).map fun i => (n, i)
  | _ => none
def elemOfS (ti : Nat → Option TI) (t : Nat) : Option TI :=
  match ti t with
  | some ⟨.slice e, _, _, _⟩ => ti e
  | _ => none
def placeOf (ti : Nat → Option TI) (t k : Nat) : Option (Nat × Nat) :=
  match fieldOf ti t k with
  | some (o, i) => some (o, i.sz)
  | none => match elemOfA ti t with
    | some (_, i) => some (k * i.sz, i.sz)
    | none => none
def fills (ti : Nat → Option TI) (tm : Tm) (t : Nat) : List (Nat × Operand) → List AV → Option (List AV)
  | [], cs => some cs
  | (k, x) :: ps, cs => match ev tm x, placeOf ti t k with
    | some v, some (o, z) => match v.cells with
      | some new => if new.length = z ∧ o + z ≤ cs.length then fills ti tm t ps (setAt cs o new) else none
      | none => none
    | _, _ => none
def built (ti : Nat → Option TI) : Ty → Bool
  | .struct _ => true
  | .array _ e => (ti e).isSome
  | _ => false
def fillS (h : H) (tm : Tm) (z : Nat) : List (Nat × Operand) → List (List T) → Option (List (List T) × Bool × List (Nat × Blk))
  | [], es => some (es, true, [])
  | (k, x) :: ps, es => match ev tm x with
    | some v => match v.cells with
      | some cs => match embs h cs with
        | some (new, l, u) => if new.length = z ∧ k < es.length then (match fillS h tm z ps (es.set k new) with
            | some (es', l', u') => some (es', l && l', u ++ u')
            | none => none) else none
        | none => none
      | none => none
    | none => none
def bound (tm : Tm) (d : Nat) : Option Operand → Option Int
  | none => some d
  | some x => match ev tm x with
    | some (.t (.i _ n) _) => some n
    | _ => none
abbrev Res := Option (Prop × AV × List (Nat × Blk))
def okR (v : AV) : Res := some (True, v, [])
def atT (l : Bool) (o : Option T) : Res := some (o.isSome = true, .t (o.getD (.b false)) l, [])
def atA (o : Option AV) : Res := some (o.isSome = true, o.getD .nl, [])
def partA (i : TI) (cs : List AV) (o : Nat) : Res :=
  match isAgg i.d with
  | true => some (o + i.sz ≤ cs.length, .agg ((cs.drop o).take i.sz), [])
  | false => atA cs[o]?
def partT (i : TI) (cs : List T) (o : Nat) (l : Bool) : Res :=
  match isAgg i.d with
  | true => some (o + i.sz ≤ cs.length, .t (.agg ((cs.drop o).take i.sz)) l, [])
  | false => atT l cs[o]?
def qLoad (ti : Nat → Option TI) (h : H) (t : Nat) (v : AV) : Res :=
  match ti t, v with
  | some i, .ptr id off => match varOf h id with
    | some cs => partA i cs off
    | none => none
  | some i, .t (.pt cs) l => partT i cs 0 l
  | some i, .t (.inn _ (.pt cs)) l => partT i cs 0 l
  | some i, .eptr id ver k j => match rowOf h id ver with
    | some (_, es, l) => match partT i ((es[k]?).getD []) j l with
      | some (p, v, u) => some ((es[k]?).isSome = true ∧ p, v, u)
      | none => none
    | none => none
  | _, _ => none
def cut3 (n : Nat) (lo hi : Option Int) (mx : Option (Option Int)) : Option (Prop × Nat × Nat × Bool) :=
  match lo, hi, mx with
  | some p, some q, none => some (0 ≤ p ∧ p ≤ q ∧ q ≤ n, p.toNat, (q - p).toNat, false)
  | some p, some q, some (some m) => some (0 ≤ p ∧ p ≤ q ∧ q ≤ m ∧ m ≤ n, p.toNat, (q - p).toNat, decide (m = p))
  | _, _, _ => none
def qSlice (ti : Nat → Option TI) (tm : Tm) (h : H) (t : Nat) (v : AV) (lo hi mx : Option Operand) : Res :=
  let m3 := match mx, hi with
    | none, _ => none
    | some _, some _ => some (bound tm 0 mx)
    | some _, none => some none
  match v with
  | .t (.sl es) l => match elemOfS ti t, cut3 es.length (bound tm 0 lo) (bound tm es.length hi) m3 with
    | some i, some (p, o, n, e) => match e with
      | true => some (p, .e0, [])
      | false => some (p ∧ (o = 0 ∨ okEs i.sz es), .t (.sl ((es.drop o).take n)) l, [])
    | _, _ => none
  | .row id ver off len => match elemOfS ti t, rowOf h id ver, cut3 len (bound tm 0 lo) (bound tm len hi) m3 with
    | some i, some (z, _, _), some (p, o, n, _) => some (p ∧ z = i.sz, .row id ver (off + o) n, [])
    | _, _, _ => none
  | .nl => match elemOfS ti t, cut3 0 (bound tm 0 lo) (bound tm 0 hi) m3 with
    | some _, some (p, _, _, _) => some (p, .nl, [])
    | _, _ => none
  | .e0 => match elemOfS ti t, cut3 0 (bound tm 0 lo) (bound tm 0 hi) m3 with
    | some _, some (p, _, _, _) => some (p, .e0, [])
    | _, _ => none
  | .ptr id off => match elemOfA ti t, varOf h id, mx with
    | some (c, i), some cs, none => match cut3 c (bound tm 0 lo) (bound tm c hi) none with
      | some (p, o, n, _) => some (p ∧ off + c * i.sz ≤ cs.length, .vs id (off + o * i.sz) n i.sz, [])
      | none => none
    | _, _, _ => none
  | _ => none
def qIxA (ti : Nat → Option TI) (h : H) (t : Nat) (v : AV) (p : Int) : Res :=
  match v with
  | .t (.sl es) l => match elemOfS ti t with
    | some i => some (0 ≤ p ∧ (es[p.toNat]?).isSome = true ∧ ((es[p.toNat]?).getD []).length = i.sz ∧ 0 < i.sz, .t (.pt ((es[p.toNat]?).getD [])) l, [])
    | none => none
  | .t (.inn D (.sl es)) l => match elemOfS ti t with
    | some i => some (0 ≤ p ∧ (es[p.toNat]?).isSome = true ∧ ((es[p.toNat]?).getD []).length = i.sz ∧ 0 < i.sz, .t (.inn D (.pt ((es[p.toNat]?).getD []))) l, [])
    | none => none
  | .row id ver off len => match elemOfS ti t, rowOf h id ver with
    | some i, some (z, es, _) => some (0 ≤ p ∧ p < len ∧ off + len ≤ es.length ∧ z = i.sz ∧ 0 < z, .eptr id ver (off + p.toNat) 0, [])
    | _, _ => none
  | .vs id off len z => match elemOfS ti t with
    | some i => some (0 ≤ p ∧ p < len ∧ z = i.sz, .ptr id (off + p.toNat * z), [])
    | none => none
  | .ptr id off => match elemOfA ti t with
    | some (c, i) => some (0 ≤ p ∧ p < c, .ptr id (off + p.toNat * i.sz), [])
    | none => none
  | .t (.pt cs) l => match elemOfA ti t with
    | some (c, i) => some (0 ≤ p ∧ p < c, .t (.pt (cs.drop (p.toNat * i.sz))) l, [])
    | none => none
  | .eptr id ver k j => match elemOfA ti t with
    | some (c, i) => some (0 ≤ p ∧ p < c, .eptr id ver k (j + p.toNat * i.sz), [])
    | none => none
  | _ => none
def flats : List (List T) → Bool
  | [] => true
  | e :: es => e.all T.flat && flats es
def flagOf (xs : List (List T)) (l : Bool) : Bool := l || flats xs
def qAppend (ti : Nat → Option TI) (h : H) (n t : Nat) (v u : AV) : Res :=
  match elemOfS ti t, elems h u with
  | some i, some (xs, lx) => match v with
    | .nl | .e0 => some (0 < i.sz ∧ 0 < i.nb ∧ okEs i.sz xs ∧ xs.length * i.nb ≤ room, .row n 0 0 xs.length, [(n, .row 0 i.sz xs (flagOf xs lx))])
    | .row id ver off len => match rowOf h id ver with
      | some (z, es, l) => some (0 < i.sz ∧ 0 < i.nb ∧ okEs i.sz xs ∧ off = 0 ∧ len ≤ es.length ∧ z = i.sz ∧ (len + xs.length) * i.nb ≤ room,
          .row id (ver + 1) 0 (len + xs.length), [(id, .row (ver + 1) z (es.take len ++ xs) (l && flagOf xs lx))])
      | none => none
    | _ => none
  | _, _ => none
def qGrow (ti : Nat → Option TI) (h : H) (n t t' : Nat) (v u : AV) : Res :=
  match elemOfS ti t, ti t', u with
  | some i, some ⟨.int _, _, _, _⟩, .t (.i _ p) _ => match v with
    | .nl => some (0 < i.sz ∧ 0 < p ∧ p * i.nb ≤ room ∧ p ≤ room, .row n 0 0 p.toNat, [(n, .row 0 i.sz (List.replicate p.toNat i.z) true)])
    | .row id ver off len => match rowOf h id ver with
      | some (z, es, l) => some (0 < i.sz ∧ 0 < i.nb ∧ 0 ≤ p ∧ (∀ x ∈ i.z, x.one) ∧ off = 0 ∧ len ≤ es.length ∧ z = i.sz ∧ (len + p.toNat) * i.nb ≤ room,
          .row id (ver + 1) 0 (len + p.toNat), [(id, .row (ver + 1) z (es.take len ++ List.replicate p.toNat i.z) l)])
      | none => none
    | _ => none
  | _, _, _ => none
def lenOf : AV → Option Nat
  | .t (.sl es) _ => some es.length
  | .t (.inn _ (.sl es)) _ => some es.length
  | .nl => some 0
  | .e0 => some 0
  | .row _ _ _ len => some len
  | .vs _ _ len _ => some len
  | _ => none
def qLen (ti : Nat → Option TI) (t : Nat) (v : AV) : Res :=
  match ti t, v with
  | some ⟨.str, _, _, _⟩, .t (.s y) _ => okR (.t (.i .i64 y.size) true)
  | some ⟨.slice e, _, _, _⟩, v => match lenOf v with
    | some n => okR (.t (.i .i64 n) true)
    | none => none
  | _, _ => none
def T.isI : T → Prop
  | .i _ _ => True
  | _ => False
def aggOK (ti : Nat → Option TI) (t : Nat) : T → Prop
  | .agg cs => match elemOfA ti t with
    | some (n, i) => cs.length = n ∧ i.sz = 1 ∧ (match i.d with | .int _ => True | _ => False) ∧ ∀ x ∈ cs, x.isI
    | none => False
  | .b _ => match ti t with
    | some ⟨.bool, _, _, _⟩ => True
    | _ => False
  | _ => True
def qBuiltin (ti : Nat → Option TI) (h : H) (n : Nat) (b : Builtin) (ts : List Nat) (vs : List AV) : Res :=
  match b with
  | .len => match ts, vs with
    | [t], [v] => qLen ti t v
    | _, _ => none
  | .cap => match ts, vs with
    | [t], [.nl] => match elemOfS ti t with
      | some _ => okR (.t (.i .i64 0) true)
      | none => none
    | [t], [.e0] => match elemOfS ti t with
      | some _ => okR (.t (.i .i64 0) true)
      | none => none
    | _, _ => none
  | .min => match vs with
    | [.t (.i k p) _, .t (.i _ r) _] => okR (.t (.i k (if r < p then r else p)) true)
    | _ => none
  | .max => match vs with
    | [.t (.i k p) _, .t (.i _ r) _] => okR (.t (.i k (if r > p then r else p)) true)
    | _ => none
  | .append => match ts, vs with
    | [t, t'], [v, u] => if t = t' then qAppend ti h n t v u else qGrow ti h n t t' v u
    | _, _ => none
  | _ => none
def nilU (o : BinOp) : AV → Option Bool
  | .nl => match o with
    | .eql => some true
    | .neq => some false
    | _ => none
  | .t .ne _ => match o with
    | .eql => some false
    | .neq => some true
    | _ => none
  | .t (.sl (_ :: _)) _ => match o with
    | .eql => some false
    | .neq => some true
    | _ => none
  | _ => none
def nilQ (o : BinOp) (u : AV) : AV → Option Bool
  | .nl => nilU o u
  | _ => none
def q (ti : Nat → Option TI) (tm : Tm) (h : H) (n : Nat) (op : Op) : Res :=
  match op with
  | .move a | .assign a => match ev tm a with
    | some v => okR v
    | none => none
  | .pick c a b => match ev tm c with
    | some (.t (.b y) _) => match (if y = true then ev tm a else ev tm b) with
      | some v => okR v
      | none => none
    | _ => none
  | .alloc e => match ti e with
    | some i => some (True, .ptr n 0, [(n, .var (i.z.map zAV))])
    | none => none
  | .box _ a => match ev tm a with
    | some v => match v.cells with
      | some cs => some (True, .ptr n 0, [(n, .var cs)])
      | none => none
    | none => none
  | .build t ps => match ti t with
    | some i => match fills ti tm t ps.toList (i.z.map zAV) with
      | some cs => some (built ti i.d = true, .agg cs, [])
      | none => none
    | none => none
  | .buildSlice t len ps => match elemOfS ti t with
    | some i => match fillS h tm i.sz ps.toList (List.replicate len i.z) with
      | some (es, l, u) => some (len * i.sz ≤ 16777216 ∧ 0 < i.sz, .row n 0 0 len, u ++ [(n, .row 0 i.sz es l)])
      | none => none
    | none => none
  | .load t a => match ev tm a with
    | some v => qLoad ti h t v
    | none => none
  | .nilCheck a => match ev tm a with
    | some (.ptr id off) => okR (.ptr id off)
    | some (.eptr id ver k j) => okR (.eptr id ver k j)
    | some (.t (.pt cs) l) => okR (.t (.pt cs) l)
    | some (.fn f cap) => okR (.fn f cap)
    | _ => none
  | .binOp o t a b _ => match ev tm a, ev tm b with
    | some u, some v => match nilQ o u v with
      | some y => some ((elemOfS ti t).isSome = true, .t (.b y) true, [])
      | none => match u.pureT, v.pureT with
        | some p, some r => match binT o p r with
          | some y => some (aggOK ti t p, .t y true, [])
          | none => none
        | _, _ => none
    | _, _ => none
  | .unOp o _ a => match ev tm a with
    | some (.t p _) => match unT o p with
      | some y => okR (.t y true)
      | none => none
    | _ => none
  | .convert src dst a => match ti src, ti dst, ev tm a with
    | some _, some ⟨.int k, _, _, _⟩, some (.t (.i _ m) _) => okR (.t (.i k (k.wrap m)) true)
    | some ⟨.str, _, _, _⟩, some ⟨.slice e, _, _, _⟩, some (.t (.s y) _) => match ti e with
      | some ⟨.int .u8, _, _, _⟩ => some (y.size ≤ room, .t (.sl (bytesOfStr y)) true, [])
      | _ => none
    | some ⟨.slice _, _, _, _⟩, some ⟨.slice e, _, _, _⟩, some (.row id ver off len) => match ti e, emb h (.row id ver off len) with
      | some ⟨.int .u8, _, _, _⟩, some (x, l, us) => some (src = dst ∧ 0 < len, .t x l, us)
      | _, _ => none
    | some ⟨.slice e, _, _, _⟩, some ⟨.str, _, _, _⟩, some v => match ti e, elems h v with
      | some ⟨.int .u8, _, _, _⟩, some (es, _) => some (areBytes es, .t (.s (strOf es)) true, [])
      | _, _ => none
    | _, _, _ => none
  | .makeFunc fn f0 cap => match fn, f0.toList, evs tm cap.toList with
    | .func f, [], some vs => okR (.fn f vs)
    | _, _, _ => none
  | .makeSlice t a b => match elemOfS ti t, ev tm a, ev tm b with
    | some i, some (.t (.i _ p) _), some (.t (.i _ r) _) => some (0 < i.sz ∧ 0 ≤ p ∧ p ≤ r ∧ r * i.nb ≤ room ∧ r ≤ room, .row n 0 0 p.toNat, [(n, .row 0 i.sz (List.replicate p.toNat i.z) true)])
    | _, _, _ => none
  | .slice t a lo hi mx => match ev tm a with
    | some v => qSlice ti tm h t v lo hi mx
    | none => none
  | .fieldAddr t a f => match ev tm a, fieldOf ti t f with
    | some (.ptr id off), some (o, i) => some (i.sz ≠ 0, .ptr id (off + o), [])
    | some (.t (.pt cs) l), some (o, i) => some (i.sz ≠ 0, .t (.pt (cs.drop o)) l, [])
    | some (.t (.inn D (.pt cs)) l), some (o, i) => some (i.sz ≠ 0, .t (.inn D (.pt (cs.drop o))) l, [])
    | some (.eptr id ver k j), some (o, i) => some (i.sz ≠ 0, .eptr id ver k (j + o), [])
    | _, _ => none
  | .field t a f => match ev tm a, fieldOf ti t f with
    | some (.t (.agg cs) l), some (o, i) => partT i cs o l
    | some (.agg cs), some (o, i) => partA i cs o
    | _, _ => none
  | .indexAddr t a b => match ev tm a, ev tm b with
    | some v, some (.t (.i _ p) _) => qIxA ti h t v p
    | _, _ => none
  | .index t a b => match ev tm a, ev tm b, elemOfA ti t with
    | some (.t (.agg cs) l), some (.t (.i _ p) _), some (c, i) => match partT i cs (p.toNat * i.sz) l with
      | some (r, v, u) => some (0 ≤ p ∧ p < c ∧ r, v, u)
      | none => none
    | some (.agg cs), some (.t (.i _ p) _), some (c, i) => match partA i cs (p.toNat * i.sz) with
      | some (r, v, u) => some (0 ≤ p ∧ p < c ∧ r, v, u)
      | none => none
    | _, _, _ => none
  | .extract a k => match ev tm a with
    | some (.t (.tup us) l) => atT l us[k]?
    | some (.tup us) => atA us[k]?
    | _ => none
  | .call c => match c.callee with
    | .builtin b => match evs tm c.args.toList with
      | some vs => qBuiltin ti h n b c.argTypes.toList vs
      | none => none
    | _ => none
  | _ => none
def callOf : Op → Option (Operand × List Operand)
  | .call c => match c.callee with
    | .value f => some (f, c.args.toList)
    | _ => none
  | _ => none
def Blk.fresh : Blk → Bool
  | .row _ _ _ l => l
  | _ => true
def AV.easy (id : Nat) : AV → Bool
  | .t .. | .nl | .e0 => true
  | .row id' .. => decide (id' ≠ id)
  | .vs id' .. => decide (id' ≠ id)
  | _ => false
def AV.wide (n : Nat) : AV → Prop
  | .agg cs => cs.length = n ∧ ∀ v ∈ cs, v.one
  | .t (.agg cs) _ => cs.length = n ∧ ∀ x ∈ cs, x.one
  | _ => False
def T.bare1 : T → T
  | .inn _ x => x
  | x => x
def T.bare : T → T
  | .inn _ x => x
  | .sl es => .sl (es.map fun e => e.map T.bare1)
  | x => x
def bares (ts ts' : List T) : Prop := ts = ts' ∨ ts.map T.bare = ts'
inductive Called (x : Cx) (h : H) (n g : Nat) (as : List AV) : AV → List (Nat × Blk) → Prop
  | plain (ts0 ts : List T) (bs : List Blk) (r : AV) (ha : argsOK h as ts0) (hb : bares ts0 ts) (hs : x.spec g ts bs r) (hl : as.any AV.loose = true → r.fresh = true ∧ bs.all Blk.fresh = true) : Called x h n g as (r.sh n) (number n bs)
  | over (id ver len : Nat) (es : List (List T)) (l : Bool) (as' : List AV) (ts : List T) (ys : List (List T)) (e : as = .row id ver 0 len :: as') (hr : rowOf h id ver = some (1, es, l)) (hlen : len ≤ es.length) (hne : as'.all (AV.easy id) = true) (ha : argsOK h as' ts)
      (hs : x.specAp g (es.take len) ts ys) : Called x h n g as (.row id (ver + 1) 0 (len + ys.length)) [(id, .row (ver + 1) 1 (es.take len ++ ys) l)]
  | exact (v0 : AV) (k : Nat) (cs as' : List AV) (e : as = v0 :: .agg cs :: as') (hw : v0.wide k) (h1 : ∀ v ∈ cs, v.one) (h2 : ∀ v ∈ as', v.one)
      (hs : ∀ us vs : List Value, us.length = cs.length → vs.length = as'.length → x.spec g (.agg (List.replicate k .what) :: .agg (us.map .val) :: vs.map .val) [] (.t (.agg ((us ++ vs).map .val)) false)) : Called x h n g as (.agg (cs ++ as')) []
  | onto (as' : List AV) (ts : List T) (ys : List (List T)) (e : as = .nl :: as') (hne : as'.all (AV.easy n) = true) (ha : argsOK h as' ts) (hs : x.specAp g [] ts ys) : Called x h n g as (.row n 1 0 ys.length) [(n, .row 1 1 ys true)]
end Go.Proofs.YtgkmhmhbepfiaaaDoor.Pm
set_option linter.all false
namespace Go.Proofs.YtgkmhmhbepfiaaaDoor.Pm
open Go
def upd1 (hp : List Blk) (u : Nat × Blk) : List Blk := if u.1 < hp.length then hp.set u.1 u.2 else hp ++ [u.2]
def upds (hp : List Blk) : List (Nat × Blk) → List Blk
  | [] => hp
  | u :: us => upds (upd1 hp u) us
def setT (e : List T) (j : Nat) (new : List T) : List T := e.take j ++ new ++ e.drop (j + new.length)
def qStore (ti : Nat → Option TI) (h : H) (t : Nat) (p u : AV) : Option (Prop × Nat × Blk) :=
  match ti t, u.cells with
  | some i, some cs => match p with
    | .ptr id off => match varOf h id with
      | some old => some (0 < i.sz ∧ cs.length = i.sz ∧ (∀ v ∈ cs, v.one) ∧ off + cs.length ≤ old.length, id, .var (setAt old off cs))
      | none => none
    | .eptr id ver k j => match rowOf h id ver, plains cs with
      | some (z, es, l), some (ys, l') => some (0 < i.sz ∧ cs.length = i.sz ∧ (∀ v ∈ cs, v.one) ∧ (es[k]?).isSome = true ∧ j + cs.length ≤ ((es[k]?).getD []).length,
          id, .row ver z (es.set k (setT ((es[k]?).getD []) j ys)) (l && l'))
      | _, _ => none
    | _ => none
  | _, _ => none
def qCopy (ti : Nat → Option TI) (h : H) (t : Nat) (p u : AV) : Option (Prop × AV × Nat × Blk) :=
  match p, elems h u, elemOfS ti t with
  | .vs id off len z, some (xs, l), some i => match varOf h id with
    | some old => some (i.sz = z ∧ 0 < z ∧ off + len * z ≤ old.length ∧ okEs z xs,
        .t (.i .i64 ((min xs.length len : Nat) : Int)) true, id, .var (setAt old off (((xs.take (min xs.length len)).flatten).map (AV.t · l))))
    | none => none
  | _, _, _ => none
def qw (ti : Nat → Option TI) (tm : Tm) (h : H) (d : Option Nat) (op : Op) : Option (Prop × Option AV × Nat × Blk) :=
  match op with
  | .store t a b => match d, ev tm a, ev tm b with
    | none, some p, some u => match qStore ti h t p u with
      | some (c, id, b) => some (c, none, id, b)
      | none => none
    | _, _, _ => none
  | .call c => match c.callee, evs tm c.args.toList, c.argTypes.toList with
    | .builtin .copy, some [p, u], [t, _] => match qCopy ti h t p u with
      | some (c, v, id, b) => some (c, some v, id, b)
      | none => none
    | _, _, _ => none
  | _ => none
def qEmSt (x : Cx) (s : S) (d : Option Nat) (op : Op) : Option (Prop × S) :=
  match op with
  | .store t a b => match d, ev s.tm a, ev s.tm b with
    | none, some p, some (.row id ver off len) => match emb (lk s.hp) (.row id ver off len) with
      | some (y, l, _) => match qStore x.ti (lk (s.hp.set id .gone)) t p (.t y l) with
        | some (c, i, k) => some (c, ⟨s.tm, (s.hp.set id .gone).set i k⟩)
        | none => none
      | none => none
    | _, _, _ => none
  | _ => none
def qst (x : Cx) (s : S) (d : Option Nat) (op : Op) : Option (Prop × S) :=
  match qw x.ti s.tm (lk s.hp) d op with
  | some (p, v, id, b) => some (p, ⟨pt s.tm d v, s.hp.set id b⟩)
  | none => qEmSt x s d op
def isSt : Op → Bool
  | .store .. => true
  | .call { callee := .builtin .copy, .. } => true
  | _ => false
inductive Lock {α : Type} (a : α) : Type
  | mk
def wcall (x : Cx) (h : H) (n g : Nat) (as : List AV) (K : AV → List (Nat × Blk) → Prop) (_ : Lock K) : Prop := ∃ v us, Called x h n g as v us ∧ K v us
def wcond (y : Bool) (A B : Prop) (_ : Lock A) (_ : Lock B) : Prop := (y = true → A) ∧ (y = false → B)
def wq (x : Cx) (tm : Tm) (h : H) (n : Nat) (op : Op) (K : AV → List (Nat × Blk) → Prop) : Prop :=
  match callOf op with
  | some (f, as) => match ev tm f, evs tm as with
    | some (.fn g cap), some vs => wcall x h n g (vs ++ cap) K .mk
    | _, _ => False
  | none => match q x.ti tm h n op with
    | some (p, v, us) => p ∧ K v us
    | none => False
def wex (x : Cx) (i : I) (s : S) (K : S → Prop) : Prop :=
  match isSt i.op with
  | true => match qst x s i.d i.op with
    | some (p, s') => p ∧ K s'
    | none => False
  | false => wq x s.tm (lk s.hp) s.hp.length i.op fun v us => K ⟨pt s.tm i.d (some v), upds s.hp us⟩
def wops (x : Cx) : List I → S → (S → Prop) → Prop
  | [], s, K => K s
  | i :: r, s, K => match i.g with
    | none => wex x i s fun s' => wops x r s' K
    | some (t, want) => match gt s.tm t with
      | some (.t (.b y) _) => wcond (y == want) (wex x i s fun s' => wops x r s' K) (wops x r ⟨pt s.tm i.d (some (.tup [])), s.hp⟩ K) .mk .mk
      | some (.tup []) => wops x r ⟨pt s.tm i.d (some (.tup [])), s.hp⟩ K
      | _ => False
def AV.id1 : AV → List Nat
  | .row id .. | .vs id .. | .ptr id .. | .eptr id .. => [id]
  | _ => []
def id1s : List AV → List Nat
  | [] => []
  | v :: vs => v.id1 ++ id1s vs
def AV.id2 : AV → List Nat
  | .agg cs => id1s cs
  | .fn _ cs => id1s cs
  | v => v.id1
def id2s : List AV → List Nat
  | [] => []
  | v :: vs => v.id2 ++ id2s vs
def AV.ids : AV → List Nat
  | .agg cs => id1s cs
  | .fn _ cs => id2s cs
  | v => v.id1
def idsO : Option AV → List Nat
  | some v => v.ids
  | none => []
def idsOs (tm : Tm) : List Operand → List Nat
  | [] => []
  | o :: os => idsO (ev tm o) ++ idsOs tm os
def idsPs (tm : Tm) : List (Nat × Operand) → List Nat
  | [] => []
  | (_, o) :: os => idsO (ev tm o) ++ idsPs tm os
def foot (tm : Tm) : Op → List Nat
  | .load _ a => idsO (ev tm a)
  | .slice _ a _ _ _ => idsO (ev tm a)
  | .indexAddr _ a _ => idsO (ev tm a)
  | .buildSlice _ _ ps => idsPs tm ps.toList
  | .convert _ _ a => idsO (ev tm a)
  | .store _ a b => idsO (ev tm a) ++ idsO (ev tm b)
  | .call c => (match c.callee with | .value f => idsO (ev tm f) | _ => []) ++ idsOs tm c.args.toList
  | _ => []
def inN (i : Nat) : List Nat → Bool
  | [] => false
  | j :: l => (i == j) || inN i l
def offN : List Nat → List Nat → Bool
  | [], _ => true
  | i :: l, m => !inN i m && offN l m
abbrev Lg := List (Nat × List Nat × List Nat)
def free (na : List Nat) (ft us : List Nat) : Lg → Bool
  | [] => true
  | (k, w, f) :: lg => (!inN k na || (offN w ft && offN w us && offN f us)) && free na ft us lg
def fsts : List (Nat × Blk) → List Nat
  | [] => []
  | u :: us => u.1 :: fsts us
def wdraw (x : Cx) : List D → Nat → Lg → S → (S → Prop) → Prop
  | [], _, _, s, K => K s
  | o :: r, k, lg, s, K =>
    match isSt o.i.op with
    | true => match o.i.g, qw x.ti s.tm (lk s.hp) o.i.d o.i.op with
      | none, some (p, v, id, b) => p ∧ free o.na (foot s.tm o.i.op) [id] lg = true ∧ wdraw x r (k + 1) ((k, [id], foot s.tm o.i.op) :: lg) ⟨pt s.tm o.i.d v, s.hp.set id b⟩ K
      | _, _ => False
    | false =>
      match o.i.g with
      | none => wq x s.tm (lk s.hp) s.hp.length o.i.op fun v us => free o.na (foot s.tm o.i.op) (fsts us) lg = true ∧ wdraw x r (k + 1) ((k, fsts us, foot s.tm o.i.op) :: lg) ⟨pt s.tm o.i.d (some v), upds s.hp us⟩ K
      | some (t, want) => match gt s.tm t with
        | some (.t (.b y) _) => wcond (y == want)
          (wq x s.tm (lk s.hp) s.hp.length o.i.op fun v us => free o.na (foot s.tm o.i.op) (fsts us) lg = true ∧ wdraw x r (k + 1) ((k, fsts us, foot s.tm o.i.op) :: lg) ⟨pt s.tm o.i.d (some v), upds s.hp us⟩ K)
          (wdraw x r (k + 1) lg ⟨pt s.tm o.i.d (some (.tup [])), s.hp⟩ K) .mk .mk
        | some (.tup []) => wdraw x r (k + 1) lg ⟨pt s.tm o.i.d (some (.tup [])), s.hp⟩ K
        | _ => False
def below (m : Nat) : AV → Bool
  | .row id .. | .vs id .. | .ptr id .. | .eptr id .. => decide (id < m)
  | .agg cs => cs.all fun | .row id .. | .vs id .. | .ptr id .. | .eptr id .. => decide (id < m) | .t .. | .nl | .e0 => true | _ => false
  | .t .. | .nl | .e0 => true
  | .fn _ cs => cs.all fun | .row id .. | .vs id .. | .ptr id .. | .eptr id .. => decide (id < m) | .t .. | .nl | .e0 => true | _ => false
  | .tup _ => false
def nilT : Tm := fun _ => none
def restr (tm : Tm) : List Nat → Tm
  | [] => nilT
  | t :: ts => up (restr tm ts) t (gt tm t)
def toT1 (m : Nat) (h : H) (v : AV) : AV := match below m v with
  | true => v
  | false => match emb h v with
    | some (x, l, _) => .t x l
    | none => v
def toT (m : Nat) (h : H) : AV → AV
  | .agg cs => .agg (cs.map (toT1 m h))
  | v => toT1 m h v
def belowV (m : Nat) (v : AV) : Option AV := if below m v = true then some v else none
def belowO (m : Nat) (h : H) : Option AV → Option AV
  | some v => belowV m (toT m h v)
  | none => none
def restrB (m : Nat) (h : H) (tm : Tm) : List Nat → Tm
  | [] => nilT
  | t :: ts => up (restrB m h tm ts) t (belowO m h (gt tm t))
def varB (m : Nat) (cs : List AV) : Blk := if cs.all (below m) = true then .var cs else .gone
def cutB (m : Nat) (h : H) : Blk → Blk
  | .var cs => varB m (cs.map (toT1 m h))
  | b => b
def cut (mk : List Nat) (m : Nat) (s : S) : S := ⟨restrB m (lk s.hp) s.tm mk, (s.hp.take m).map (cutB m (lk s.hp))⟩
def cellOf (hp : List Blk) (id o : Nat) : Option AV := match lk hp id with
  | some (.var cs) => cs[o]?
  | _ => none
def adoptC (hp : List Blk) (id o z : Nat) (v : Option AV) : List Blk := match v, lk hp id with
  | some .nl, some (.var cs) => hp.set id (.var (cs.set o (.row hp.length 0 0 0))) ++ [.row 0 z [] true]
  | _, _ => hp
def adopt : List (Nat × Nat) → S → S
  | [], s => s
  | (t, z) :: r, s => match gt s.tm t with
    | some .nl => if z = 0 then adopt r ⟨up s.tm t (some (.t (.sl []) true)), s.hp⟩ else adopt r ⟨up s.tm t (some (.row s.hp.length 0 0 0)), s.hp ++ [.row 0 z [] true]⟩
    | some (.ptr id off) => adopt r ⟨s.tm, adoptC s.hp id (off + z / 1000000 - 1) (z % 1000000) (cellOf s.hp id (off + z / 1000000 - 1))⟩
    | _ => adopt r s
def mvs (tm : Tm) : List (Nat × Nat) → List (Nat × Nat)
  | [] => []
  | (t, _) :: r => match gt tm t with
    | some (.row id _ _ _) => (t, id) :: mvs tm r
    | _ => mvs tm r
def mv2 (t r len : Nat) (s : S) (id : Nat) : Option (Nat × List (List T) × Bool) → Option Blk → S
  | some (z, es, l), some (.row v0 _ _ _) => ⟨up s.tm t (some (.row r (v0 + 1) 0 len)), (s.hp.set id .gone).set r (.row (v0 + 1) z es l)⟩
  | _, _ => s
def mv1 (m t r : Nat) (s : S) : S := match gt s.tm t with
  | some (.row id ver off len) => if id < m ∨ m ≤ r ∨ off ≠ 0 then s else mv2 t r len s id (rowOf (lk s.hp) id ver) (lk s.hp r)
  | _ => s
def mvS (m : Nat) : List (Nat × Nat) → S → S
  | [], s => s
  | (t, r) :: l, s => mvS m l (mv1 m t r s)
def hdL (ad : List (Nat × Nat)) (mk : List Nat) (s0 s : S) : S := cut mk s0.hp.length (mvS s0.hp.length (mvs s0.tm ad) s)
def rounds (hd : S → S) (body : (Ex → S → Prop) → S → Prop) (K : Ex → S → Prop) : Nat → S → Prop
  | 0, _ => False
  | n + 1, s => body (fun e s' => match e with
    | .n => rounds hd body K n s'
    | e => K e s') (hd s)
def wloop (hd : S → S) (body : (Ex → S → Prop) → S → Prop) (K : Ex → S → Prop) (s : S) (_ : Lock body) (_ : Lock K) : Prop := ∃ n, rounds hd body K n s
def wscope (hd : Nat → S → S) (bodies : Nat → Option ((Ex → S → Prop) → S → Prop)) (body : (Ex → S → Prop) → S → Prop) (K : Ex → S → Prop) (s : S) (_ : Lock bodies) (_ : Lock body) (_ : Lock K) : Prop :=
  ∃ J : Nat → Nat → S → Prop, body (fun e s' => match e with
    | .g l => ∃ n, J l n s'
    | e => K e s') s ∧ ∀ l n s, J l n s → ∃ m, match bodies l with
      | some b => b (fun e s' => match e with
        | .g l' => ∃ n', n' < n ∧ J l' n' s'
        | e => K e s') (hd m s)
      | none => False
mutual
def W (x : Cx) : C → (Ex → S → Prop) → S → Prop
  | .skip, K, s => K .n s
  | .label, K, s => K .n s
  | .keep ts, K, s => K .n ⟨restr s.tm ts, s.hp⟩
  | .reg l, K, s => wops x l s (K .n)
  | .draw l, K, s => wdraw x l 0 [] s (K .n)
  | .sem n l, K, s => x.hook n l s (K .n)
  | .seq a b, K, s => W x a (fun e s' => match e with
    | .n => W x b K s'
    | e => K e s') s
  | .cond c a b, K, s => match ev s.tm c with
    | some (.t (.b y) _) => wcond y (W x a K s) (W x b K s) .mk .mk
    | _ => False
  | .block id c, K, s => W x c (fun e s' => match e with
    | .x j => if j = id then K .n s' else K (.x j) s'
    | e => K e s') s
  | .loop ad mk c, K, s => wloop (hdL ad mk (adopt ad s)) (W x c) K (adopt ad s) .mk .mk
  | .lsem n ad mk c, K, s => x.lhook n ad mk c K s
  | .exit id, K, s => K (.x id) s
  | .ret, K, s => K .r s
  | .goto l, K, s => K (.g l) s
  | .scope ad mk c gs, K, s => wscope (fun m s => cut mk m (adopt ad s)) (Ws x gs) (W x c) K s .mk .mk .mk
def Ws (x : Cx) : List (Nat × C) → Nat → Option ((Ex → S → Prop) → S → Prop)
  | [], _ => none
  | (l, c) :: r, k => if l = k then some (W x c) else Ws x r k
end
theorem wcond_true (A B : Prop) (h : Lock A) (k : Lock B) : wcond true A B h k = A := by simp [wcond]
theorem wcond_false (A B : Prop) (h : Lock A) (k : Lock B) : wcond false A B h k = B := by simp [wcond]
section
variable (x : Cx) (K : Ex → S → Prop) (s : S)
theorem W_skip : W x .skip K s = K .n s := by simp only [W]
theorem W_keep (ts : List Nat) : W x (.keep ts) K s = K .n ⟨restr s.tm ts, s.hp⟩ := by simp only [W]
theorem W_label : W x .label K s = K .n s := by simp only [W]
theorem W_reg (l : List I) : W x (.reg l) K s = wops x l s (K .n) := by simp only [W]
theorem W_sem (n : Nat) (l : List I) : W x (.sem n l) K s = x.hook n l s (K .n) := by simp only [W]
theorem W_draw (l : List D) : W x (.draw l) K s = wdraw x l 0 [] s (K .n) := by simp only [W]
theorem W_seq (a b : C) : W x (.seq a b) K s = W x a (fun e s' => match e with
    | .n => W x b K s'
    | e => K e s') s := by simp only [W]
theorem W_cond (c : Operand) (a b : C) : W x (.cond c a b) K s = (match ev s.tm c with
    | some (.t (.b y) _) => wcond y (W x a K s) (W x b K s) .mk .mk
    | _ => False) := by simp only [W]
theorem W_block (id : Nat) (c : C) : W x (.block id c) K s = W x c (fun e s' => match e with
    | .x j => if j = id then K .n s' else K (.x j) s'
    | e => K e s') s := by simp only [W]
theorem W_loop (ad : List (Nat × Nat)) (mk : List Nat) (c : C) : W x (.loop ad mk c) K s = wloop (hdL ad mk (adopt ad s)) (W x c) K (adopt ad s) .mk .mk := by simp only [W]
theorem W_lsem (n : Nat) (ad : List (Nat × Nat)) (mk : List Nat) (c : C) : W x (.lsem n ad mk c) K s = x.lhook n ad mk c K s := by simp only [W]
theorem W_exit (id : Nat) : W x (.exit id) K s = K (.x id) s := by simp only [W]
theorem W_ret : W x .ret K s = K .r s := by simp only [W]
theorem W_scope (ad : List (Nat × Nat)) (mk : List Nat) (c : C) (gs : List (Nat × C)) : W x (.scope ad mk c gs) K s = wscope (fun m s => cut mk m (adopt ad s)) (Ws x gs) (W x c) K s .mk .mk .mk := by simp only [W]
theorem W_goto (l : Nat) : W x (.goto l) K s = K (.g l) s := by simp only [W]
end
theorem wops_plain (x : Cx) (d : Option Nat) (op : Op) (r : List I) (s : S) (K : S → Prop) : wops x (⟨d, op, none⟩ :: r) s K = wex x ⟨d, op, none⟩ s fun s' => wops x r s' K := rfl
def wguard (v : Option AV) (want : Bool) (A B : Prop) (_ : Lock A) (_ : Lock B) : Prop :=
  match v with
  | some (.t (.b y) _) => wcond (y == want) A B .mk .mk
  | some (.tup []) => B
  | _ => False
theorem wguard_u (want : Bool) (A B : Prop) (h : Lock A) (k : Lock B) : wguard (some (.tup [])) want A B h k = B := rfl
theorem wguard_b (y l want : Bool) (A B : Prop) (h : Lock A) (k : Lock B) : wguard (some (.t (.b y) l)) want A B h k = wcond (y == want) A B h k := rfl
def wguard1 (v : Option AV) (A B : Prop) (_ : Lock A) (_ : Lock B) : Prop :=
  match v with
  | some (.t (.b y) _) => wcond y A B .mk .mk
  | _ => False
theorem wguard1_b (y l : Bool) (A B : Prop) (h : Lock A) (k : Lock B) : wguard1 (some (.t (.b y) l)) A B h k = wcond y A B h k := rfl
theorem W_cond' (x : Cx) (K : Ex → S → Prop) (s : S) (c : Operand) (a b : C) : W x (.cond c a b) K s = wguard1 (ev s.tm c) (W x a K s) (W x b K s) .mk .mk := by
  rw [W_cond]
  rfl
theorem wops_guard' (x : Cx) (d : Option Nat) (op : Op) (t : Nat) (want : Bool) (r : List I) (s : S) (K : S → Prop) : wops x (⟨d, op, some (t, want)⟩ :: r) s K =
    wguard (gt s.tm t) want (wex x ⟨d, op, some (t, want)⟩ s fun s' => wops x r s' K) (wops x r ⟨pt s.tm d (some (.tup [])), s.hp⟩ K) .mk .mk := rfl
end Go.Proofs.YtgkmhmhbepfiaaaDoor.Pm
set_option linter.all false
namespace Go.Proofs.YtgkmhmhbepfiaaaDoor.Pm
open Go
structure Hint where
  ad : List (Nat × Nat)
  kp : List Nat
  ls : List Nat
def dstAt (ops : List Oper) (j : Nat) : Option Nat := (ops[j]?).bind (·.dst)
def dstIn (n : Nat) (o : Oper) : Bool :=
  match o.dst with
  | some d => decide (d < n)
  | none => true
def trI (n : Nat) (ops : List Oper) (o : Oper) : Option I :=
  match dstIn n o with
  | true => (match o.guard with
    | none => some ⟨o.dst, o.op, none⟩
    | some (j, w) => match dstAt ops j with
      | some t => some ⟨o.dst, o.op, some (t, w)⟩
      | none => none)
  | false => none
def trIs (n : Nat) (ops : List Oper) : List Oper → Option (List I)
  | [] => some []
  | o :: r => match trI n ops o, trIs n ops r with
    | some i, some is => some (i :: is)
    | _, _ => none
def bit (m i : Nat) : Bool := Nat.beq (Nat.land (Nat.shiftRight m i) 1) 1
def ons (o : Oper) : List Nat := (o.after.toList.filter (Region.binds .any)).map (·.on)
def msk (f : Nat → Nat) : List Nat → Nat
  | [] => 0
  | d :: r => Nat.lor (Nat.lor (Nat.pow 2 d) (f d)) (msk f r)
def befs : List Oper → List Nat → List Nat
  | [], acc => acc
  | o :: r, acc => befs r (acc ++ [msk (fun d => acc.getD d 0) (ons o)])
def looks (ops : List Oper) (o : Oper) : List Nat :=
  (o.op.operands.toList.filterMap fun | .tmp t => some t | _ => none) ++
  (match o.guard with
   | some (g, _) => (dstAt ops g).toList
   | none => [])
def apart (ops : List Oper) (a b : Oper) : Bool :=
  (match a.dst with
   | some d => !(looks ops b).contains d && b.dst != some d
   | none => true) &&
  (match b.dst with
   | some d => !(looks ops a).contains d
   | none => true)
def isSel : Op → Bool
  | .select .. => true
  | _ => false
def apAll (ops : List Oper) (m : Nat) (o : Oper) : Nat → List Oper → Bool
  | _, [] => true
  | i, p :: r => match bit m i with
    | true => apAll ops m o (i + 1) r
    | false => apart ops p o && apAll ops m o (i + 1) r
def drawAt (ops : List Oper) (bs : List Nat) (n j : Nat) (o : Oper) : Bool :=
  !isSel o.op &&
  ((ons o).all fun e => Nat.blt e j) &&
  (match o.guard with
   | some (g, _) => Nat.blt g n && bit (bs.getD j 0) g
   | none => true) &&
  apAll ops (bs.getD j 0) o 0 (ops.take j)
def drawAll (ops : List Oper) (bs : List Nat) (n : Nat) : Nat → List Oper → Bool
  | _, [] => true
  | j, o :: r => drawAt ops bs n j o && drawAll ops bs n (j + 1) r
def drawOK (ops : List Oper) : Bool := drawAll ops (befs ops []) ops.length 0 ops
def trD (nt : Nat) (ops : List Oper) (bs : List Nat) : Nat → List Oper → Option (List D)
  | _, [] => some []
  | j, o :: r => match trI nt ops o, trD nt ops bs (j + 1) r with
    | some i, some is => some (⟨i, (List.range j).filter (fun k => !bit (bs.getD j 0) k)⟩ :: is)
    | _, _ => none
def restOf (r : Code → List Hint → Option (C × List Hint)) (c : Code) : List Nat → List Hint → Option (List (Nat × C) × List Hint)
  | [], hs => some ([], hs)
  | l :: ls, hs => match findLabel c l with
    | some rest => match r rest hs with
      | some (c', hs) => match restOf r c ls hs with
        | some (gs, hs) => some ((l, c') :: gs, hs)
        | none => none
      | none => none
    | none => none
def semOr (l : List I) : List Nat → C
  | [] => .reg l
  | n :: _ => .sem n l
def loopOr (h : Hint) (c : C) : C := match h.ls with
  | [] => .loop h.ad h.kp c
  | n :: _ => .lsem n h.ad h.kp c
def tr0 (nt : Nat) (fl : List Nat) : Code → List Hint → Option (C × List Hint)
  | .skip, hs => some (.skip, hs)
  | .region _ ops false, h :: hs => (trIs nt ops.toList ops.toList).map fun l => (.seq (semOr l h.ls) (.keep h.kp), hs)
  | .region _ ops true, h :: hs => if drawOK ops.toList = true then (trD nt ops.toList (befs ops.toList []) 0 ops.toList).map fun l => (.seq (.draw l) (.keep h.kp), hs) else none
  | .seq a b, hs => match tr0 nt fl a hs with
    | some (a', hs) => match tr0 nt fl b hs with
      | some (b', hs) => some (.seq a' b', hs)
      | none => none
    | none => none
  | .cond c a b, hs => match tr0 nt fl a hs with
    | some (a', hs) => match tr0 nt fl b hs with
      | some (b', hs) => some (.cond c a' b', hs)
      | none => none
    | none => none
  | .block id c, hs => match tr0 nt fl c hs with
    | some (c', hs) => some (.block id c', hs)
    | none => none
  | .loop c, h :: hs => match tr0 nt fl c hs with
    | some (c', hs) => some (loopOr h c', hs)
    | none => none
  | .exit id, hs => some (.exit id, hs)
  | .ret, hs => some (.ret, hs)
  | .label _, hs => some (.label, hs)
  | .goto l, hs => some (.goto l, hs)
  | _, _ => none
def tr (nt : Nat) (fl : List Nat) : Code → List Hint → Option (C × List Hint)
  | .scope c, h :: hs => match tr0 nt fl c hs with
    | some (c', hs) => match restOf (tr0 nt fl) c h.ls hs with
      | some (gs, hs) => some (.scope h.ad h.kp c' gs, hs)
      | none => none
    | none => none
  | .seq a b, hs => match tr nt fl a hs with
    | some (a', hs) => match tr nt fl b hs with
      | some (b', hs) => some (.seq a' b', hs)
      | none => none
    | none => none
  | c, hs => tr0 nt fl c hs
end Go.Proofs.YtgkmhmhbepfiaaaDoor.Pm
set_option linter.all false
namespace Go.Proofs.YtgkmhmhbepfiaaaDoor.Pm
open Go Go.RowKit
inductive Rep (w : World) : (Nat → Prop) → Value → T → Prop
  | i {B : Nat → Prop} (k : IntKind) (n : Int) : Rep w B (.int k n) (.i k n)
  | b {B : Nat → Prop} (x : Bool) : Rep w B (.bool x) (.b x)
  | s {B : Nat → Prop} (x : ByteArray) : Rep w B (.string x) (.s x)
  | sl {B : Nat → Prop} (A : Option Addr) (n c : Nat) (es : List (List T)) (z : Nat) (vals : Nat → Nat → Value) (hn : es.length = n) (hc : n ≤ c) (hm : n ≤ room) (hz0 : A = none → c = 0)
      (hz : ∀ (i : Nat) (e : List T), es[i]? = some e → e.length = z)
      (hA : 0 < n → ∃ ad, A = some ad ∧ B ad.block ∧ ∀ i j, i < n → j < z → w.cell? (ad.add (i * z + j)) = some (vals i j))
      (hv : ∀ (i j : Nat) (e : List T) (x : T), es[i]? = some e → e[j]? = some x → Rep w B (vals i j) x) : Rep w B (.slice A n c) (.sl es)
  | nl {B : Nat → Prop} : Rep w B (.slice none 0 0) .nl
  | ne {B : Nat → Prop} (a : Addr) (c : Nat) : Rep w B (.slice (some a) 0 c) .ne
  | agg {B : Nat → Prop} (vs : Array Value) (cs : List T) (hs : vs.size = cs.length) (h : ∀ (j : Nat) (v : Value) (x : T), vs[j]? = some v → cs[j]? = some x → Rep w B v x) : Rep w B (.agg vs) (.agg cs)
  | tup {B : Nat → Prop} (vs : Array Value) (cs : List T) (hs : vs.size = cs.length) (h : ∀ (j : Nat) (v : Value) (x : T), vs[j]? = some v → cs[j]? = some x → Rep w B v x) : Rep w B (.tuple vs) (.tup cs)
  | pt {B : Nat → Prop} (a : Addr) (cs : List T) (vals : Nat → Value) (hB : B a.block) (hc : ∀ j, j < cs.length → w.cell? (a.add j) = some (vals j))
      (hv : ∀ (j : Nat) (x : T), cs[j]? = some x → Rep w B (vals j) x) : Rep w B (.pointer (some a)) (.pt cs)
  | fn {B : Nat → Prop} (f : Nat) (vs : Array Value) (cs : List T) (hs : vs.size = cs.length) (h : ∀ (j : Nat) (v : Value) (x : T), vs[j]? = some v → cs[j]? = some x → Rep w B v x) : Rep w B (.func (.func f) #[] vs) (.fn f cs)
  | what {B : Nat → Prop} (v : Value) (h : v.oneCell' = true) : Rep w B v .what
  | val {B : Nat → Prop} (v : Value) (h : v.oneCell' = true) : Rep w B v (.val v)
  | inn {B : Nat → Prop} (D : Nat → Prop) (v : Value) (x : T) (h : v.oneCell' = true) (hr : Rep w (fun b => B b ∧ D b) v x) : Rep w B v (.inn D x)
theorem block_add (a : Addr) (n : Nat) : (a.add n).block = a.block := by unfold Addr.add; split <;> rfl
theorem add_add' (a : Addr) (i j : Nat) : (a.add i).add j = a.add (i + j) := by
  unfold Addr.add
  by_cases hi : i = 0 <;> by_cases hj : j = 0 <;> simp [hi, hj, Nat.add_assoc]
theorem cell_block {w w' : World} {a : Addr} (h : w'.heap[a.block]? = w.heap[a.block]?) : w'.cell? a = w.cell? a := by simp only [World.cell?, h]
theorem Rep.mono {w w' : World} {B B' : Nat → Prop} {v : Value} {x : T} (h : Rep w B v x) (hB : ∀ b, B b → B' b) (hw : ∀ b, B b → w'.heap[b]? = w.heap[b]?) : Rep w' B' v x := by
  induction h generalizing B' with
  | i k n => exact .i k n
  | b x => exact .b x
  | s x => exact .s x
  | ne a c => exact .ne a c
  | what v h => exact .what v h
  | val v h => exact .val v h
  | inn D v x h hr ih => exact .inn D v x h (ih (fun b hb => ⟨hB b hb.1, hb.2⟩) (fun b hb => hw b hb.1))
  | sl A n c es z vals hn hc hm hz0 hz hA hv ih =>
    refine .sl A n c es z vals hn hc hm hz0 hz (fun h0 => ?_) (fun i j e x he hx => ih i j e x he hx hB hw)
    obtain ⟨ad, e, hb, hcell⟩ := hA h0
    exact ⟨ad, e, hB _ hb, fun i j hi hj => (cell_block (by rw [block_add]; exact hw _ hb)).trans (hcell i j hi hj)⟩
  | nl => exact .nl
  | agg vs cs hs h ih => exact .agg vs cs hs (fun j v x hv hx => ih j v x hv hx hB hw)
  | tup vs cs hs h ih => exact .tup vs cs hs (fun j v x hv hx => ih j v x hv hx hB hw)
  | pt a cs vals hb hc hv ih => exact .pt a cs vals (hB _ hb) (fun j hj => (cell_block (by rw [block_add]; exact hw _ hb)).trans (hc j hj)) (fun j x hx => ih j x hx hB hw)
  | fn f vs cs hs h ih => exact .fn f vs cs hs (fun j v x hv hx => ih j v x hv hx hB hw)
structure Mp where
  φ : Nat → Nat
  ψ : Nat → Nat × Nat
  st : Nat → Prop
def Mp.ok (m : Mp) (B : Nat) (l : Bool) : Nat → Prop := fun b => m.st b ∧ (l = true → B ≤ b)
def verOK (h : H) (id ver : Nat) : Prop := ∀ v' z es l, h id = some (.row v' z es l) → ver ≤ v'
inductive VR (m : Mp) (B : Nat) (h : H) (w : World) : Value → AV → Prop
  | t (v : Value) (x : T) (l : Bool) (hr : Rep w (m.ok B l) v x) : VR m B h w v (.t x l)
  | nl : VR m B h w (.slice none 0 0) .nl
  | e0 (A : Option Addr) : VR m B h w (.slice A 0 0) .e0
  | row (id ver off len c : Nat) (A : Option Addr) (hid : (h id).isSome = true) (hver : verOK h id ver) (hc : len ≤ c)
      (hr : ∀ z es l, rowOf h id ver = some (z, es, l) → off + c ≤ (m.ψ id).2 ∧ (0 < c → A = some ((⟨(m.ψ id).1, 0, none⟩ : Addr).add (off * z)))) : VR m B h w (.slice A len c) (.row id ver off len)
  | vs (id off len z c : Nat) (A : Option Addr) (hid : (h id).isSome = true) (hc : len ≤ c) (hA : 0 < c → A = some ⟨m.φ id, off, none⟩) : VR m B h w (.slice A len c) (.vs id off len z)
  | ptr (id off : Nat) (hid : (h id).isSome = true) : VR m B h w (.pointer (some ⟨m.φ id, off, none⟩)) (.ptr id off)
  | eptr (id ver i j : Nat) (a : Addr) (hid : (h id).isSome = true) (hver : verOK h id ver)
      (hr : ∀ z es l, rowOf h id ver = some (z, es, l) → a = (⟨(m.ψ id).1, 0, none⟩ : Addr).add (i * z + j)) : VR m B h w (.pointer (some a)) (.eptr id ver i j)
  | fn (f : Nat) (vs : Array Value) (cs : List AV) (hs : vs.size = cs.length) (hv : ∀ (j : Nat) (v : Value) (x : AV), vs[j]? = some v → cs[j]? = some x → VR m B h w v x) : VR m B h w (.func (.func f) #[] vs) (.fn f cs)
  | agg (vs : Array Value) (cs : List AV) (hs : vs.size = cs.length) (hv : ∀ (j : Nat) (v : Value) (x : AV), vs[j]? = some v → cs[j]? = some x → VR m B h w v x) : VR m B h w (.agg vs) (.agg cs)
  | tup (vs : Array Value) (cs : List AV) (hs : vs.size = cs.length) (hv : ∀ (j : Nat) (v : Value) (x : AV), vs[j]? = some v → cs[j]? = some x → VR m B h w v x) : VR m B h w (.tuple vs) (.tup cs)
structure Ext (m : Mp) (h : H) (w : World) (m' : Mp) (h' : H) (w' : World) : Prop where
  known : ∀ id, (h id).isSome = true → (h' id).isSome = true
  φ : ∀ id, (h id).isSome = true → m'.φ id = m.φ id
  ver : ∀ id v' z es l, (h id).isSome = true → h' id = some (.row v' z es l) → ∃ v0 z0 es0 l0, h id = some (.row v0 z0 es0 l0) ∧ v0 ≤ v'
  ψ : ∀ id ver z es l, (h id).isSome = true → verOK h id ver → rowOf h' id ver = some (z, es, l) → (∃ es0 l0, rowOf h id ver = some (z, es0, l0)) ∧ m'.ψ id = m.ψ id
  st : ∀ b, m.st b → m'.st b
  heap : ∀ b, m.st b → w'.heap[b]? = w.heap[b]?
theorem Ext.kept {m m' : Mp} {h h' : H} {w w' w0 : World} {st : Nat → Prop} (he : Ext m h w m' h' w') (hk : ∀ b, st b → m.st b ∧ w.heap[b]? = w0.heap[b]?) : ∀ b, st b → m'.st b ∧ w'.heap[b]? = w0.heap[b]? :=
  fun b hb => ⟨he.st b (hk b hb).1, (he.heap b (hk b hb).1).trans (hk b hb).2⟩
theorem Ext.refl (m : Mp) (h : H) (w : World) : Ext m h w m h w := ⟨fun _ h => h, fun _ _ => rfl, fun _ v' z es l _ hh => ⟨v', z, es, l, hh, Nat.le_refl _⟩, fun _ _ _ es l _ _ hr => ⟨⟨es, l, hr⟩, rfl⟩, fun _ h => h, fun _ _ => rfl⟩
theorem Ext.verOK {m m' : Mp} {h h' : H} {w w' : World} (he : Ext m h w m' h' w') {id ver : Nat} (hid : (h id).isSome = true) (hv : verOK h id ver) : verOK h' id ver := fun v' z es l hh => by
  obtain ⟨v0, z0, es0, l0, h0, hle⟩ := he.ver id v' z es l hid hh
  exact Nat.le_trans (hv _ _ _ _ h0) hle
theorem VR.mono {m m' : Mp} {B : Nat} {h h' : H} {w w' : World} {v : Value} {x : AV} (hv : VR m B h w v x) (he : Ext m h w m' h' w') : VR m' B h' w' v x := by
  induction hv with
  | t v x l hr => exact .t v x l (hr.mono (fun b hb => ⟨he.st b hb.1, hb.2⟩) (fun b hb => he.heap b hb.1))
  | nl => exact .nl
  | e0 A => exact .e0 A
  | row id ver off len c A hid hver hc hr =>
    refine .row id ver off len c A (he.known _ hid) (he.verOK hid hver) hc fun z es l hrow => ?_
    obtain ⟨⟨es0, l0, h0⟩, hψ⟩ := he.ψ _ _ _ _ _ hid hver hrow
    rw [hψ]
    exact hr _ _ _ h0
  | vs id off len z c A hid hc hA => exact .vs id off len z c A (he.known _ hid) hc (by rw [he.φ _ hid]; exact hA)
  | ptr id off hid => rw [← he.φ _ hid]; exact .ptr id off (he.known _ hid)
  | eptr id ver i j a hid hver hr =>
    refine .eptr id ver i j a (he.known _ hid) (he.verOK hid hver) fun z es l hrow => ?_
    obtain ⟨⟨es0, l0, h0⟩, hψ⟩ := he.ψ _ _ _ _ _ hid hver hrow
    rw [hψ]
    exact hr _ _ _ h0
  | fn f vs cs hs hv ih => exact .fn f vs cs hs ih
  | agg vs cs hs hv ih => exact .agg vs cs hs ih
  | tup vs cs hs hv ih => exact .tup vs cs hs ih
def BlkOK (m : Mp) (B : Nat) (h : H) (w : World) (id : Nat) : Blk → Prop
  | .var cs => B ≤ m.φ id ∧ ¬ m.st (m.φ id) ∧ ∃ rcs t, w.heap[m.φ id]? = some (.cells rcs t (0, 0)) ∧ rcs.size = cs.length ∧ ∀ (j : Nat) (v : Value) (x : AV), rcs[j]? = some v → cs[j]? = some x → VR m B h w v x
  | .row _ z es l => es.length ≤ (m.ψ id).2 ∧ es.length ≤ room ∧ (∀ (i : Nat) (e : List T), es[i]? = some e → e.length = z) ∧ (0 < (m.ψ id).2 → B ≤ (m.ψ id).1 ∧ ¬ m.st (m.ψ id).1 ∧
      ∃ rcs t, w.heap[(m.ψ id).1]? = some (.cells rcs t (0, 0)) ∧ (m.ψ id).2 * z ≤ rcs.size ∧
        ∀ (i j : Nat) (e : List T) (x : T), es[i]? = some e → e[j]? = some x → ∃ v, rcs[i * z + j]? = some v ∧ Rep w (m.ok B l) v x)
  | .gone => True
def placeB (m : Mp) (id : Nat) : Blk → Option Nat
  | .var _ => some (m.φ id)
  | .row .. => if 0 < (m.ψ id).2 then some (m.ψ id).1 else none
  | .gone => none
def place (m : Mp) (h : H) (id : Nat) : Option Nat :=
  match h id with
  | some b => placeB m id b
  | none => none
def GlobOK (w : World) (B : Nat → Prop) : Prop := ∀ g cs, globT g = some cs → Rep w B (.pointer (some ⟨g, 0, none⟩)) (.pt cs)
structure Ct where
  P : Program
  w0 : World
  st : Nat → Prop
  n : Nat
  B : Nat := w0.heap.size
  hB : B ≤ w0.heap.size := by exact Nat.le_refl _
  hG : GlobOK w0 st
  R : Nat → Prop := fun _ => False
  wR : World := w0
def softB (w : World) (b : Nat) : Prop := ∀ rcs t f, w.heap[b]? = some (.cells rcs t f) → ∀ o, o < rcs.size → ¬ (f.1 ≤ o ∧ o < f.2)
theorem softB.of {w w' : World} {b : Nat} (e : w'.heap[b]? = w.heap[b]?) (h : softB w b) : softB w' b := by unfold softB; rw [e]; exact h
theorem softB.row {w : World} {b : Nat} {rcs : Array Value} {t : Nat} (e : w.heap[b]? = some (.cells rcs t (0, 0))) : softB w b := fun rcs' t' f h o _ hc => by
  rw [e] at h
  simp only [Option.some.injEq, Obj.cells.injEq] at h
  obtain ⟨_, _, rfl⟩ := h
  exact Nat.not_lt_zero _ hc.2
theorem softB.end {w : World} {b : Nat} {rcs : Array Value} {t n k : Nat} (e : w.heap[b]? = some (.cells rcs t (n, k))) (hn : rcs.size ≤ n) : softB w b := fun rcs' t' f h o ho hc => by
  rw [e] at h
  simp only [Option.some.injEq, Obj.cells.injEq] at h
  obtain ⟨rfl, _, rfl⟩ := h
  have := hc.1
  simp only at this
  omega
structure Mem (c : Ct) (m : Mp) (h : H) (w : World) : Prop where
  below : Below c.B c.w0 w
  kept : ∀ b, c.st b → m.st b ∧ w.heap[b]? = c.w0.heap[b]?
  blk : ∀ id b, h id = some b → BlkOK m c.B h w id b
  sep : ∀ i j g, place m h i = some g → place m h j = some g → i = j
  stlt : ∀ b, m.st b → b < w.heap.size
  stin : ∀ b, m.st b → c.st b ∨ c.B ≤ b
  soft : ∀ b, m.st b → ¬ c.st b → softB w b
  res : ∀ b, c.R b → b < w.heap.size ∧ ¬ m.st b ∧ (∀ id, place m h id ≠ some b) ∧ w.heap[b]? = c.wR.heap[b]?
theorem Mem.softE {c : Ct} {m m' : Mp} {h h' : H} {w w' : World} (hM : Mem c m h w) (he : Ext m h w m' h' w') : ∀ b, m.st b → ¬ c.st b → softB w' b := fun b hb hB => (hM.soft b hb hB).of (he.heap b hb)
theorem Mem.bsize {c : Ct} {m : Mp} {h : H} {w : World} (hM : Mem c m h w) : c.B ≤ w.heap.size := Nat.le_trans c.hB hM.below.size
structure Sat (c : Ct) (m : Mp) (h : H) (tm : Tm) (a : Act) (w : World) : Prop where
  mem : Mem c m h w
  defers : a.defers = []
  size : c.n ≤ a.tmps.size
  tmps : ∀ t v, tm t = some v → t < a.tmps.size ∧ VR m c.B h w (a.tmps.getD t undef) v
theorem gt_some {tm : Tm} {t : Nat} {v : AV} (h : gt tm t = some v) : tm t = some v := h
theorem cT_rep {w : World} {B : Nat → Prop} {v : Value} {x : T} (h : cT v = some x) : Rep w B v x := by
  unfold cT at h
  split at h <;> simp only [Option.some.injEq, reduceCtorEq] at h <;> subst h
  · exact .i _ _
  · exact .b _
  · exact .s _
  · exact .sl none 0 0 [] 0 (fun _ _ => undef) rfl (Nat.le_refl _) (by unfold room; omega) (fun _ => rfl) (by simp) (by simp) (by simp)
theorem cTs_get : ∀ {vs : List Value} {xs : List T}, cTs vs = some xs → vs.length = xs.length ∧ ∀ (j : Nat) (v : Value) (x : T), vs[j]? = some v → xs[j]? = some x → cT v = some x
  | [], xs, h => by simp [cTs] at h; subst h; simp
  | v :: vs, xs, h => by
    simp only [cTs] at h
    split at h
    · rename_i x ys h1 h2
      simp only [Option.some.injEq] at h
      subst h
      obtain ⟨hl, hg⟩ := cTs_get h2
      refine ⟨by simp [hl], fun j u y hu hy => ?_⟩
      cases j with
      | zero => simp at hu hy; subst hu; subst hy; exact h1
      | succ j => simp at hu hy; exact hg j u y hu hy
    · cases h
theorem cAV_vr {m : Mp} {B : Nat} {h : H} {w : World} {v : Value} {x : AV} (hx : cAV v = some x) : VR m B h w v x := by
  unfold cAV at hx
  split at hx
  · simp at hx; subst hx; exact .nl
  · rename_i cs
    simp only [Option.map_eq_some_iff] at hx
    obtain ⟨l, hl, rfl⟩ := hx
    obtain ⟨h1, h2⟩ := cTs_get hl
    exact .t _ _ _ (.agg _ _ (by simpa using h1) fun j v x hv hx => cT_rep (h2 j v x (by simpa using hv) hx))
  · simp at hx; subst hx; exact .t _ _ _ (.i _ _)
  · simp at hx; subst hx; exact .t _ _ _ (.b _)
  · simp at hx; subst hx; exact .t _ _ _ (.s _)
  · cases hx
theorem ev_vr {c : Ct} {m : Mp} {h : H} {tm : Tm} {a : Act} {w : World} (hS : Sat c m h tm a w) {o : Operand} {x : AV} (hx : ev tm o = some x) : VR m c.B h w (a.eval o) x := by
  cases o with
  | tmp t => exact (hS.tmps t x (gt_some hx)).2
  | const v => exact cAV_vr hx
  | global g =>
    simp only [ev, Option.map_eq_some_iff] at hx
    obtain ⟨cs, hg, rfl⟩ := hx
    exact .t _ _ _ ((c.hG g cs hg).mono (fun b hb => ⟨(hS.mem.kept b hb).1, fun e => by cases e⟩) (fun b hb => (hS.mem.kept b hb).2))
  | func f =>
    simp [ev] at hx
    subst hx
    exact .fn f #[] [] rfl (by simp)
theorem Sat.put {c : Ct} {m : Mp} {h : H} {tm : Tm} {a : Act} {w : World} (hS : Sat c m h tm a w) (d : Option Nat) (hd : ∀ t, d = some t → t < c.n) {v : Value} {x : AV} (hv : VR m c.B h w v x) : Sat c m h (pt tm d (some x)) (a.put d v) w := by
  cases d with
  | none => exact hS
  | some d =>
    have hlt : d < a.tmps.size := Nat.lt_of_lt_of_le (hd d rfl) hS.size
    refine ⟨hS.mem, hS.defers, by simpa [Act.put] using hS.size, fun t y hy => ?_⟩
    simp only [pt, up] at hy
    by_cases htd : t = d
    · subst htd
      rw [if_pos rfl] at hy
      simp only [Option.some.injEq] at hy
      subst hy
      refine ⟨by simpa [Act.put] using hlt, ?_⟩
      simpa [Act.put, Array.getD, hlt] using hv
    · rw [if_neg htd] at hy
      obtain ⟨h1, h2⟩ := hS.tmps t y hy
      refine ⟨by simpa [Act.put] using h1, ?_⟩
      simpa [Act.put, Array.getD_eq_getD_getElem?, Array.getElem?_setIfInBounds_ne (Ne.symm htd)] using h2
theorem Sat.drop {c : Ct} {m : Mp} {h : H} {tm : Tm} {a : Act} {w : World} (hS : Sat c m h tm a w) (d : Option Nat) (v : Value) : Sat c m h (pt tm d none) (a.put d v) w := by
  cases d with
  | none => exact hS
  | some d =>
    refine ⟨hS.mem, hS.defers, by simpa [Act.put] using hS.size, fun t y hy => ?_⟩
    simp only [pt, up] at hy
    by_cases htd : t = d
    · subst htd
      rw [if_pos rfl] at hy
      cases hy
    · rw [if_neg htd] at hy
      obtain ⟨h1, h2⟩ := hS.tmps t y hy
      refine ⟨by simpa [Act.put] using h1, ?_⟩
      simpa [Act.put, Array.getD_eq_getD_getElem?, Array.getElem?_setIfInBounds_ne (Ne.symm htd)] using h2
end Go.Proofs.YtgkmhmhbepfiaaaDoor.Pm
set_option linter.all false
namespace Go.Proofs.YtgkmhmhbepfiaaaDoor.Pm
open Go Go.RowKit
def dOK : TypeDesc → Ty → Bool
  | .bool, .bool => true
  | .int k, .int k' => k == k'
  | .string, .str => true
  | .pointer e, .ptr e' => e == e'
  | .slice e, .slice e' => e == e'
  | .array n e, .array n' e' => n == n' && e == e'
  | .struct fs, .struct l => fs.toList.map (fun f => (f.offset, f.type)) == l
  | _, _ => false
structure TIr (P : Program) (t : Nat) (i : TI) : Prop where
  und : ∃ d, P.underlying t = some d ∧ dOK d i.d = true
  info : ∃ inf, P.info? t = some inf ∧ inf.size = i.sz ∧ inf.bytes = i.nb ∧ ∃ zv, inf.zero = some zv ∧ cTs zv.cells.toList = some i.z ∧ zv.cells.size = i.sz
  flds : ∀ fs, P.underlying t = some (.struct fs) → (fs.toList.mapM fun (f : Field) => (P.info? f.type).map fun j => (f.offset, j.size)).isSome = true
structure TIok (P : Program) (ti : Nat → Option TI) : Prop where
  ok : ∀ t i, ti t = some i → TIr P t i
section
variable {P : Program} {w : World}
theorem dOK_agg {d : TypeDesc} {y : Ty} (h : dOK d y = true) : (match d with | .struct _ | .array _ _ => true | _ => false) = isAgg y := by
  cases d <;> cases y <;> first | rfl | exact (Bool.false_ne_true h).elim
theorem TIr.run_und {t : Nat} {i : TI} (h : TIr P t i) : ∃ d, (underlying t).run P w = .ok d w ∧ P.underlying t = some d ∧ dOK d i.d = true := by
  obtain ⟨d, hd, ho⟩ := h.und
  exact ⟨d, run_underlying hd w, hd, ho⟩
theorem TIr.run_size {t : Nat} {i : TI} (h : TIr P t i) : (sizeOf t).run P w = .ok i.sz w := by
  obtain ⟨inf, hi, hs, _⟩ := h.info
  simp [sizeOf, typeInfo, hi, hs]
theorem TIr.run_isAgg {t : Nat} {i : TI} (h : TIr P t i) : (Go.isAgg t).run P w = .ok (Pm.isAgg i.d) w := by
  obtain ⟨d, hr, hd, ho⟩ := h.run_und (w := w)
  have ha := dOK_agg ho
  unfold Go.isAgg
  simp only [Sem.run_bind, hr, Result.andThen_ok]
  rw [← ha]
  cases d <;> rfl
theorem loadVar_cells {t : Nat} {i : TI} (h : TIr P t i) (ha : Pm.isAgg i.d = true) (a : Addr) (vals : List Value) (hl : vals.length = i.sz) (hc : ∀ (j : Nat) (v : Value), vals[j]? = some v → w.cell? (a.add j) = some v) :
    (loadVar t a).run P w = .ok (.agg vals.toArray) w := by
  have := run_loadCells_list (P := P) w a vals hc
  rw [hl] at this
  simp [loadVar, h.run_isAgg, ha, h.run_size, this]
theorem loadVar_one {t : Nat} {i : TI} (h : TIr P t i) (ha : Pm.isAgg i.d = false) (a : Addr) (v : Value) (hc : w.cell? a = some v) : (loadVar t a).run P w = .ok v w := by
  simp [loadVar, h.run_isAgg, ha, hc]
theorem add_lit (g o j : Nat) : (⟨g, o, none⟩ : Addr).add j = ⟨g, o + j, none⟩ := by
  unfold Addr.add
  split
  · subst_vars; rfl
  · rfl
theorem cell_lit {g : Nat} {rcs : Array Value} {t : TypeId} {fr : Nat × Nat} (hg : w.heap[g]? = some (.cells rcs t fr)) (j : Nat) : w.cell? ⟨g, j, none⟩ = rcs[j]? := cell_of_row w g j rcs t fr hg
theorem list_get {α : Type} {l : List α} {j : Nat} (hj : j < l.length) : ∃ v, l[j]? = some v := ⟨l[j], List.getElem?_eq_getElem hj⟩
theorem part_cells {t : Nat} {i : TI} (h : TIr P t i) (ha : Pm.isAgg i.d = true) (cs : Array Value) (o : Nat) : (part t cs o).run P w = .ok (.agg (cs.extract o (o + i.sz))) w := by
  simp [part, h.run_isAgg, ha, h.run_size]
theorem part_one {t : Nat} {i : TI} (h : TIr P t i) (ha : Pm.isAgg i.d = false) (cs : Array Value) (o : Nat) (v : Value) (hv : cs[o]? = some v) : (part t cs o).run P w = .ok v w := by
  simp [part, h.run_isAgg, ha, hv]
end
section
variable {c : Ct} {m : Mp} {h h1 : H} {w : World} {ti : Nat → Option TI}
def Sub (h1 h : H) : Prop := ∀ id b, h1 id = some b → h id = some b
theorem Sub.var (hs : Sub h1 h) {id : Nat} {cs : List AV} (hv : varOf h1 id = some cs) : h id = some (.var cs) := by
  unfold varOf at hv
  split at hv
  · rename_i x hx; simp at hv; subst hv; exact hs _ _ hx
  · cases hv
theorem rowOf_some {id ver z : Nat} {es : List (List T)} {l : Bool} (hv : rowOf h id ver = some (z, es, l)) : h id = some (.row ver z es l) := by
  unfold rowOf at hv
  split at hv
  · rename_i v z' es' l' hx
    split at hv
    · rename_i hver; simp at hv; obtain ⟨rfl, rfl, rfl⟩ := hv; subst hver; exact hx
    · cases hv
  · cases hv
theorem Sub.row (hs : Sub h1 h) {id ver z : Nat} {es : List (List T)} {l : Bool} (hv : rowOf h1 id ver = some (z, es, l)) : h id = some (.row ver z es l) ∧ rowOf h id ver = some (z, es, l) := by
  have := hs _ _ (rowOf_some hv)
  exact ⟨this, by simp [rowOf, this]⟩
theorem Mem.var_cells (hM : Mem c m h w) {id : Nat} {cs : List AV} (hv : h id = some (.var cs)) : ∃ rcs t, w.heap[m.φ id]? = some (.cells rcs t (0, 0)) ∧ rcs.size = cs.length ∧
    (∀ (j : Nat) (v : Value) (x : AV), rcs[j]? = some v → cs[j]? = some x → VR m c.B h w v x) := by
  obtain ⟨_, _, rcs, t, hh, hz, hr⟩ := hM.blk _ _ hv
  exact ⟨rcs, t, hh, hz, hr⟩
theorem Rep.agg_part {B : Nat → Prop} {vs : Array Value} {cs : List T} (hs : vs.size = cs.length) (hv : ∀ (j : Nat) (v : Value) (x : T), vs[j]? = some v → cs[j]? = some x → Rep w B v x) (o n : Nat) (hl : o + n ≤ cs.length) :
    Rep w B (.agg (vs.extract o (o + n))) (.agg ((cs.drop o).take n)) := by
  refine .agg _ _ (by simp; omega) fun j v x h1 h2 => ?_
  have hj : j < n := by
    have := (List.getElem?_eq_some_iff.1 h2).1
    simp at this
    omega
  rw [Array.getElem?_extract] at h1
  rw [List.getElem?_take_of_lt hj, List.getElem?_drop] at h2
  split at h1
  · exact hv (o + j) v x h1 h2
  · cases h1
theorem VR.agg_part {vs : Array Value} {cs : List AV} (hs : vs.size = cs.length) (hv : ∀ (j : Nat) (v : Value) (x : AV), vs[j]? = some v → cs[j]? = some x → VR m c.B h w v x) (o n : Nat) (hl : o + n ≤ cs.length) :
    VR m c.B h w (.agg (vs.extract o (o + n))) (.agg ((cs.drop o).take n)) := by
  refine .agg _ _ (by simp; omega) fun j v x h1 h2 => ?_
  have hj : j < n := by
    have := (List.getElem?_eq_some_iff.1 h2).1
    simp at this
    omega
  rw [Array.getElem?_extract] at h1
  rw [List.getElem?_take_of_lt hj, List.getElem?_drop] at h2
  split at h1
  · exact hv (o + j) v x h1 h2
  · cases h1
theorem partT_sound {P : Program} {t : Nat} {i : TI} (hT : TIr P t i) {l : Bool} {vs : Array Value} {cs : List T} (hs : vs.size = cs.length) (hv : ∀ (j : Nat) (v : Value) (x : T), vs[j]? = some v → cs[j]? = some x → Rep w (m.ok c.B l) v x)
    {o : Nat} {p : Prop} {x : AV} {us : List (Nat × Blk)} (hq : partT i cs o l = some (p, x, us)) (hp : p) : us = [] ∧ ∃ r, (part t vs o).run P w = .ok r w ∧ VR m c.B h w r x := by
  unfold partT at hq
  split at hq
  · rename_i ha
    simp only [Option.some.injEq, Prod.mk.injEq] at hq
    obtain ⟨rfl, rfl, rfl⟩ := hq
    exact ⟨rfl, _, part_cells hT ha _ _, .t _ _ _ (Rep.agg_part hs hv _ _ hp)⟩
  · rename_i ha
    simp only [atT, Option.some.injEq, Prod.mk.injEq] at hq
    obtain ⟨rfl, rfl, rfl⟩ := hq
    obtain ⟨y, hy⟩ := Option.isSome_iff_exists.1 hp
    have hlt : o < vs.size := by rw [hs]; exact (List.getElem?_eq_some_iff.1 hy).1
    have hvo : vs[o]? = some vs[o] := by simp [hlt]
    refine ⟨rfl, _, part_one hT ha _ _ _ hvo, ?_⟩
    rw [hy]
    exact .t _ _ _ (hv _ _ _ hvo hy)
theorem partA_sound {P : Program} {t : Nat} {i : TI} (hT : TIr P t i) {vs : Array Value} {cs : List AV} (hs : vs.size = cs.length) (hv : ∀ (j : Nat) (v : Value) (x : AV), vs[j]? = some v → cs[j]? = some x → VR m c.B h w v x)
    {o : Nat} {p : Prop} {x : AV} {us : List (Nat × Blk)} (hq : partA i cs o = some (p, x, us)) (hp : p) : us = [] ∧ ∃ r, (part t vs o).run P w = .ok r w ∧ VR m c.B h w r x := by
  unfold partA at hq
  split at hq
  · rename_i ha
    simp only [Option.some.injEq, Prod.mk.injEq] at hq
    obtain ⟨rfl, rfl, rfl⟩ := hq
    exact ⟨rfl, _, part_cells hT ha _ _, VR.agg_part hs hv _ _ hp⟩
  · rename_i ha
    simp only [atA, Option.some.injEq, Prod.mk.injEq] at hq
    obtain ⟨rfl, rfl, rfl⟩ := hq
    obtain ⟨y, hy⟩ := Option.isSome_iff_exists.1 hp
    have hlt : o < vs.size := by rw [hs]; exact (List.getElem?_eq_some_iff.1 hy).1
    have hvo : vs[o]? = some vs[o] := by simp [hlt]
    refine ⟨rfl, _, part_one hT ha _ _ _ hvo, ?_⟩
    rw [hy]
    exact hv _ _ _ hvo hy
theorem loadVar_part {P : Program} {t : Nat} {i : TI} (hT : TIr P t i) (a : Addr) (vs : Array Value) (o : Nat) (hc : ∀ (j : Nat) (v : Value), vs[o + j]? = some v → w.cell? (a.add j) = some v) (hl : Pm.isAgg i.d = true → o + i.sz ≤ vs.size)
    {r : Value} (hr : (part t vs o).run P w = .ok r w) : (loadVar t a).run P w = .ok r w := by
  cases ha : Pm.isAgg i.d with
  | true =>
    rw [part_cells hT ha] at hr
    simp only [Result.ok.injEq, and_true] at hr
    subst hr
    have := loadVar_cells (w := w) hT ha a (vs.extract o (o + i.sz)).toList (by simp; have := hl ha; omega) (fun j v hj => by
      rw [Array.getElem?_toList, Array.getElem?_extract] at hj
      split at hj
      · exact hc j v hj
      · cases hj)
    rwa [Array.toArray_toList] at this
  | false =>
    have h2 : (part t vs o).run P w = (match vs[o]? with | some v => Result.ok v w | none => .halt (.stuck "part: no such cell") w) := by
      simp only [part, Sem.run_bind, hT.run_isAgg, ha, Result.andThen_ok]
      cases vs[o]? <;> simp
    rw [h2] at hr
    cases hv : vs[o]? with
    | none => rw [hv] at hr; cases hr
    | some v =>
      rw [hv] at hr
      simp only [Result.ok.injEq, and_true] at hr
      subst hr
      have := hc 0 v (by simpa using hv)
      exact loadVar_one hT ha a v (by simpa [Addr.add] using this)
theorem loadPt_sound {P : Program} (hP : TIok P ti) {t : Nat} {i : TI} (hti : ti t = some i) {cs : List T} {l : Bool} {rv : Value} (hv : VR m c.B h w rv (.t (.pt cs) l)) {p : Prop} {x : AV} {us : List (Nat × Blk)}
    (hq : partT i cs 0 l = some (p, x, us)) (hp : p) : us = [] ∧ ∃ r, (Instr.loadAt t rv).run P w = .ok r w ∧ VR m c.B h w r x := by
  cases hv with
  | t _ _ _ hr =>
    cases hr with
    | pt a _ vals hb hc hv =>
      have hz : (Array.ofFn (n := cs.length) fun j => vals j).size = cs.length := by simp
      have hcells : ∀ (j : Nat) (v : Value), (Array.ofFn (n := cs.length) fun j => vals j)[0 + j]? = some v → w.cell? (a.add j) = some v := fun j v hj => by
        simp only [Nat.zero_add, Array.getElem?_ofFn] at hj
        split at hj
        · rename_i hlt; simp at hj; subst hj; exact hc j hlt
        · cases hj
      obtain ⟨hu, r, h2, h3⟩ := partT_sound (P := P) (h := h) (hP.ok _ _ hti) (vs := Array.ofFn (n := cs.length) fun j => vals j) hz (fun j v x h1 h2 => by
        simp only [Array.getElem?_ofFn] at h1
        split at h1
        · simp at h1; subst h1; exact hv j x h2
        · cases h1) hq hp
      refine ⟨hu, r, ?_, h3⟩
      simp only [Instr.loadAt, Instr.sureAddr, Sem.run_bind, Sem.run_pure, Result.andThen_ok]
      refine loadVar_part (hP.ok _ _ hti) _ _ 0 hcells (fun ha => ?_) h2
      simp only [partT, ha, Option.some.injEq, Prod.mk.injEq] at hq
      rw [hz]
      exact hq.1 ▸ hp
theorem qLoad_sound {P : Program} (hP : TIok P ti) (hM : Mem c m h w) (hs : Sub h1 h) {t : Nat} {v : AV} {rv : Value} (hv : VR m c.B h w rv v) {p : Prop} {x : AV} {us : List (Nat × Blk)}
    (hq : qLoad ti h1 t v = some (p, x, us)) (hp : p) : us = [] ∧ ∃ r, (Instr.loadAt t rv).run P w = .ok r w ∧ VR m c.B h w r x := by
  unfold qLoad at hq
  split at hq
  · rename_i i id off hti
    split at hq
    · rename_i cs hcs
      obtain ⟨rcs, ty, hh, hz, hr⟩ := hM.var_cells (hs.var hcs)
      obtain ⟨hu, r, h2, h3⟩ := partA_sound (P := P) (h := h) (w := w) (hP.ok _ _ hti) hz hr hq hp
      refine ⟨hu, r, ?_, h3⟩
      cases hv with
      | ptr _ _ _ =>
        simp only [Instr.loadAt, Instr.sureAddr, Sem.run_bind, Sem.run_pure, Result.andThen_ok]
        refine loadVar_part (hP.ok _ _ hti) _ rcs off (fun j v hj => by rw [add_lit, cell_lit hh]; exact hj) (fun ha => ?_) h2
        simp only [partA, ha, Option.some.injEq, Prod.mk.injEq] at hq
        rw [hz, ]
        exact hq.1 ▸ hp
    · cases hq
  · rename_i i cs l hti
    exact loadPt_sound hP hti hv hq hp
  · rename_i i D cs l hti
    refine loadPt_sound hP hti ?_ hq hp
    cases hv with
    | t _ _ _ hr => cases hr with | inn _ _ _ _ hr => exact .t _ _ _ (hr.mono (fun b hb => hb.1) (fun _ _ => rfl))
  · rename_i i id ver k j hti
    split at hq
    · rename_i z es l hrow
      obtain ⟨hid, hrow'⟩ := hs.row hrow
      split at hq
      · rename_i p' v' u' hpart
        simp only [Option.some.injEq, Prod.mk.injEq] at hq
        obtain ⟨rfl, rfl, rfl⟩ := hq
        obtain ⟨hk, hp'⟩ := hp
        obtain ⟨e, he⟩ := Option.isSome_iff_exists.1 hk
        rw [he] at hpart
        simp only [Option.getD_some] at hpart
        obtain ⟨hle, hlr, hez, hmem⟩ := hM.blk _ _ hid
        have hklt : k < es.length := (List.getElem?_eq_some_iff.1 he).1
        obtain ⟨_, _, rcs, ty, hh, hsz, hcell⟩ := hmem (by omega)
        have hel := hez _ _ he
        -- the element's cells
        have hin : k * z + z ≤ rcs.size := by
          have : (k + 1) * z ≤ (m.ψ id).2 * z := Nat.mul_le_mul_right _ (by omega)
          rw [Nat.add_mul] at this
          omega
        have hz : (rcs.extract (k * z) (k * z + z)).size = e.length := by simp; omega
        obtain ⟨hu, r, h2, h3⟩ := partT_sound (P := P) (h := h) (hP.ok _ _ hti) (vs := rcs.extract (k * z) (k * z + z)) hz (fun o v x h1 h2 => by
          rw [Array.getElem?_extract] at h1
          split at h1
          · obtain ⟨v', hv', hrep⟩ := hcell k o e x he h2
            rw [hv'] at h1; simp at h1; subst h1; exact hrep
          · cases h1) hpart hp'
        refine ⟨hu, r, ?_, h3⟩
        cases hv with
        | eptr _ _ _ _ a _ _ ha =>
          have := ha _ _ _ hrow'
          subst this
          simp only [Instr.loadAt, Instr.sureAddr, Sem.run_bind, Sem.run_pure, Result.andThen_ok]
          refine loadVar_part (hP.ok _ _ hti) _ _ j (fun o v ho => ?_) (fun ha' => ?_) h2
          · rw [Array.getElem?_extract] at ho
            split at ho
            · rw [add_lit, add_lit, cell_lit hh]
              rw [← ho]
              congr 1
              omega
            · cases ho
          · simp only [partT, ha', Option.some.injEq, Prod.mk.injEq] at hpart
            rw [hz]
            exact hpart.1 ▸ hp'
      · cases hq
    · cases hq
  · cases hq
end
end Go.Proofs.YtgkmhmhbepfiaaaDoor.Pm
set_option linter.all false
namespace Go.Proofs.YtgkmhmhbepfiaaaDoor.Pm
open Go Go.RowKit
section
variable {P : Program} {w : World} {c : Ct} {m : Mp} {h h1 : H} {ti : Nat → Option TI}
theorem Rep.any {B : Nat → Prop} {v : Value} {x : T} (hr : Rep w B v x) : Rep w (fun _ => True) v x := hr.mono (fun _ _ => trivial) (fun _ _ => rfl)
theorem plains_get : ∀ {cs : List AV} {p : List T × Bool}, plains cs = some p → cs.length = p.1.length ∧ ∀ (j : Nat) (u : AV), cs[j]? = some u → ∃ q, u.plain = some q ∧ p.1[j]? = some q.1 ∧ (p.2 = true → q.2 = true)
  | [], p, hp => by simp [plains] at hp; subst hp; simp
  | v :: vs, p, hp => by
    simp only [plains] at hp
    split at hp
    · rename_i x l xs k h1 h2
      simp only [Option.some.injEq] at hp
      subst hp
      obtain ⟨hl, hg⟩ := plains_get h2
      refine ⟨by simp [hl], fun j u hu => ?_⟩
      cases j with
      | zero => simp at hu; subst hu; exact ⟨_, h1, by simp, by simp; intro a _; exact a⟩
      | succ j => simp at hu; obtain ⟨q, a, b, d⟩ := hg j u hu; exact ⟨q, a, by simpa using b, fun e => d (by simp at e; exact e.2)⟩
    · cases hp
theorem Rep.nilslice {B : Nat → Prop} (A : Option Addr) : Rep w B (.slice A 0 0) (.sl []) :=
  .sl A 0 0 [] 0 (fun _ _ => undef) rfl (Nat.le_refl _) (by unfold room; omega) (fun _ => rfl) (by simp) (by simp) (by simp)
theorem plain_rep {u : AV} {q : T × Bool} (hq : u.plain = some q) {v : Value} (hv : VR m c.B h w v u) : Rep w (m.ok c.B q.2) v q.1 := by
  cases hv <;> simp only [AV.plain, Option.some.injEq, reduceCtorEq] at hq
  case t x l hr => subst hq; exact hr
  case nl => subst hq; exact Rep.nilslice _
  case e0 => subst hq; exact Rep.nilslice _
theorem ok_mono {l l' : Bool} (hl : l' = true → l = true) {v : Value} {x : T} (hr : Rep w (m.ok c.B l) v x) : Rep w (m.ok c.B l') v x :=
  hr.mono (fun _ hb => ⟨hb.1, fun e => hb.2 (hl e)⟩) (fun _ _ => rfl)
theorem pureT_rep {u : AV} {p : T} (hp : u.pureT = some p) {v : Value} (hv : VR m c.B h w v u) : Rep w (fun _ => True) v p := by
  cases hv <;> simp only [AV.pureT, Option.some.injEq, reduceCtorEq] at hp
  case t x l hr => subst hp; exact hr.any
  case agg vs cs hs hv =>
    simp only [Option.map_eq_some_iff] at hp
    obtain ⟨q, hq, rfl⟩ := hp
    obtain ⟨hl, hg⟩ := plains_get hq
    refine .agg _ _ (hs.trans hl) fun j v x h1 h2 => ?_
    have hj : j < cs.length := by rw [hl]; exact (List.getElem?_eq_some_iff.1 h2).1
    obtain ⟨u, hu⟩ := list_get hj
    obtain ⟨r, ha, hb, _⟩ := hg j u hu
    rw [hb] at h2
    simp at h2
    subst h2
    exact (plain_rep ha (hv j v u h1 hu)).any
theorem binI_sound {o : BinOp} {k k' : IntKind} {a b : Int} {y : T} (hy : binI o k k' a b = some y) (t : TypeId) : ∃ r, (binOp o t (.int k a) (.int k' b)).run P w = .ok r w ∧ ∀ B, Rep w B r y := by
  cases o <;> simp only [binI] at hy <;> split at hy <;> try simp only [Option.some.injEq, reduceCtorEq] at hy
  case shl hb => subst hy; exact ⟨.int k (k.wrap (a * 2 ^ min b.toNat k.bits)), by simp [binOp, Op.shift, Int.not_lt.2 hb], fun B => .i _ _⟩
  case shr hb => subst hy; exact ⟨.int k (a.fdiv (2 ^ min b.toNat k.bits)), by simp [binOp, Op.shift, Int.not_lt.2 hb], fun B => .i _ _⟩
  case quo e => split at hy <;> simp only [Option.some.injEq, reduceCtorEq] at hy; rename_i hb; subst hy; subst e; exact ⟨.int k (k.wrap (a.tdiv b)), by simp [binOp, Op.intDiv, hb], fun B => .i _ _⟩
  case rem e => split at hy <;> simp only [Option.some.injEq, reduceCtorEq] at hy; rename_i hb; subst hy; subst e; exact ⟨.int k (a.tmod b), by simp [binOp, Op.intDiv, hb], fun B => .i _ _⟩
  case add e => subst hy; subst e; exact ⟨.int k (k.wrap (a + b)), by simp [binOp, Op.intArith], fun B => .i _ _⟩
  case sub e => subst hy; subst e; exact ⟨.int k (k.wrap (a - b)), by simp [binOp, Op.intArith], fun B => .i _ _⟩
  case mul e => subst hy; subst e; exact ⟨.int k (k.wrap (a * b)), by simp [binOp, Op.intArith], fun B => .i _ _⟩
  case and e => subst hy; subst e; exact ⟨_, by simp only [binOp, Op.intBits, ne_eq, not_true_eq_false, if_false, Sem.run_pure], fun B => .i _ _⟩
  case or e => subst hy; subst e; exact ⟨_, by simp only [binOp, Op.intBits, ne_eq, not_true_eq_false, if_false, Sem.run_pure], fun B => .i _ _⟩
  case xor e => subst hy; subst e; exact ⟨_, by simp only [binOp, Op.intBits, ne_eq, not_true_eq_false, if_false, Sem.run_pure], fun B => .i _ _⟩
  case andNot e => subst hy; subst e; exact ⟨_, by simp only [binOp, Op.intBits, ne_eq, not_true_eq_false, if_false, Sem.run_pure], fun B => .i _ _⟩
  case eql e => subst hy; subst e; exact ⟨.bool (a == b), by simp [binOp, Op.intCmp], fun B => .b _⟩
  case neq e => subst hy; subst e; exact ⟨.bool (a != b), by simp [binOp, Op.intCmp], fun B => .b _⟩
  case lss e => subst hy; subst e; exact ⟨.bool (decide (a < b)), by simp [binOp, Op.intCmp], fun B => .b _⟩
  case leq e => subst hy; subst e; exact ⟨.bool (decide (a ≤ b)), by simp [binOp, Op.intCmp], fun B => .b _⟩
  case gtr e => subst hy; subst e; exact ⟨.bool (decide (a > b)), by simp [binOp, Op.intCmp], fun B => .b _⟩
  case geq e => subst hy; subst e; exact ⟨.bool (decide (a ≥ b)), by simp [binOp, Op.intCmp], fun B => .b _⟩
theorem guard_int (o : BinOp) (t : TypeId) (x y : Operand) (k k' : IntKind) (a b : Int) : (eqGuard o t x y (.int k a) (.int k' b)).run P w = .ok () w := by cases o <;> simp [eqGuard]
theorem guard_bool (o : BinOp) (t : TypeId) (x y : Operand) (a b : Bool) : (eqGuard o t x y (.bool a) (.bool b)).run P w = .ok () w := by cases o <;> simp [eqGuard]
theorem guard_string (o : BinOp) (t : TypeId) (x y : Operand) (a b : ByteArray) : (eqGuard o t x y (.string a) (.string b)).run P w = .ok () w := by cases o <;> simp [eqGuard]
theorem eqItems_cells (d : Nat) {e : TypeId} {i : TI} (hT : TIr P e i) (hd : ∃ k, i.d = .int k) (xs ys : Array Value) : ∀ (n : Nat) (as bs : List T) (o : Nat), as.length = n → bs.length = n → (∀ x ∈ as, x.isI) →
    (∀ (j : Nat) (x : T), as[j]? = some x → ∃ v, xs[o + j]? = some v ∧ Rep w (fun _ => True) v x) → (∀ (j : Nat) (x : T), bs[j]? = some x → ∃ v, ys[o + j]? = some v ∧ Rep w (fun _ => True) v x) →
    ∀ r, eqCells as bs = some r → (Op.eqItems (d + 1) e 1 xs ys (List.range' o n)).run P w = .ok r w := by
  intro n
  induction n with
  | zero =>
    intro as bs o ha hb _ _ _ r hr
    have := List.eq_nil_of_length_eq_zero ha
    have := List.eq_nil_of_length_eq_zero hb
    subst_vars
    simp [eqCells] at hr
    subst hr
    simp [Op.eqItems]
  | succ n ih =>
    intro as bs o ha hb hI hx hy r hr
    match as, bs, ha, hb with
    | a :: as, b :: bs, ha, hb =>
      obtain ⟨va, hva, hra⟩ := hx 0 a rfl
      obtain ⟨vb, hvb, hrb⟩ := hy 0 b rfl
      simp only [Nat.add_zero] at hva hvb
      have hagg : Pm.isAgg i.d = false := by rcases hd with ⟨k, e⟩; rw [e]; rfl
      have pa := part_one (w := w) hT hagg xs o va hva
      have pb := part_one (w := w) hT hagg ys o vb hvb
      have ih' : ∀ r, eqCells as bs = some r → (Op.eqItems (d + 1) e 1 xs ys (List.range' (o + 1) n)).run P w = .ok r w := fun r hr =>
        ih as bs (o + 1) (by simpa using ha) (by simpa using hb) (fun x hx => hI x (by simp [hx])) (fun j x hj => by have := hx (j + 1) x (by simpa using hj); rwa [show o + (j + 1) = o + 1 + j by omega] at this)
          (fun j x hj => by have := hy (j + 1) x (by simpa using hj); rwa [show o + (j + 1) = o + 1 + j by omega] at this) r hr
      obtain ⟨de, hde, hdk⟩ := hT.und
      have hia := hI a (by simp)
      cases a <;> cases b <;> simp only [eqCells, reduceCtorEq] at hr
      case i.i k x k' y =>
        cases hra; cases hrb
        split at hr
        · rename_i hk
          subst hk
          simp only [Option.map_eq_some_iff] at hr
          obtain ⟨r', hr', rfl⟩ := hr
          have ht : (Op.equalIn (d + 1) e (.int k x) (.int k y)).run P w = .ok (x == y) w := by
            rcases hd with ⟨k2, e'⟩
            rw [e'] at hdk
            cases de <;> first | exact (Bool.false_ne_true hdk).elim | exact run_equalIn_int w d e k _ x y hde
          simp only [List.range'_succ, Op.eqItems, Sem.run_bind, Nat.mul_one, pa, pb, Result.andThen_ok, ht]
          cases hxy : (x == y)
          · simp
          · simpa using ih' r' hr'
        · cases hr
      case b.b x y => exact hia.elim
theorem elemOfA_some {t n : Nat} {i : TI} (hP : TIok P ti) (h : elemOfA ti t = some (n, i)) : ∃ e, P.underlying t = some (.array n e) ∧ TIr P e i := by
  unfold elemOfA at h
  split at h
  · rename_i n' e _ _ _ hti
    simp only [Option.map_eq_some_iff, Prod.mk.injEq] at h
    obtain ⟨i', hi', rfl, rfl⟩ := h
    obtain ⟨d, hd, ho⟩ := (hP.ok _ _ hti).und
    refine ⟨e, ?_, hP.ok _ _ hi'⟩
    cases d <;> first | exact (Bool.false_ne_true ho).elim | skip
    simp only [dOK, Bool.and_eq_true, beq_iff_eq] at ho
    rw [hd, ho.1, ho.2]
  · cases h
theorem elemOfS_some {t : Nat} {i : TI} (hP : TIok P ti) (h : elemOfS ti t = some i) : ∃ e, P.underlying t = some (.slice e) ∧ TIr P e i := by
  unfold elemOfS at h
  split at h
  · rename_i e _ _ _ hti
    obtain ⟨d, hd, ho⟩ := (hP.ok _ _ hti).und
    refine ⟨e, ?_, hP.ok _ _ h⟩
    cases d <;> first | exact (Bool.false_ne_true ho).elim | skip
    simp only [dOK, beq_iff_eq] at ho
    rw [hd, ho]
  · cases h
theorem nilQ_sound (hP : TIok P ti) {o : BinOp} {t : TypeId} (hok : (elemOfS ti t).isSome = true) {m : Mp} {B : Nat} {h : H} {u v : AV} {y : Bool} (hy : nilQ o u v = some y) (a b : Operand) {va vb : Value} (ha : VR m B h w va u) (hb : VR m B h w vb v) :
    (eqGuard o t a b va vb).run P w = .ok () w ∧ (binOp o t va vb).run P w = .ok (.bool y) w := by
  obtain ⟨i, hi⟩ := Option.isSome_iff_exists.1 hok
  obtain ⟨e, hu, _⟩ := elemOfS_some hP hi
  have hb' : vb = .slice none 0 0 ∧ nilU o u = some y := by
    cases v
    case nl => cases hb; exact ⟨rfl, hy⟩
    all_goals (have h0 : (none : Option Bool) = some y := hy; cases h0)
  clear hy
  obtain ⟨rfl, hy⟩ := hb'
  have key : ∃ A n c, va = .slice A n c ∧ ((o = .eql ∧ y = A.isNone) ∨ (o = .neq ∧ y = !A.isNone)) := by
    cases ha
    case nl => cases o <;> simp [nilU] at hy <;> subst hy <;> exact ⟨none, 0, 0, rfl, by simp⟩
    case t x l hr =>
      cases hr
      case sl A n c es z vals hn hc hm hz0 hz hA hv =>
        cases es with
        | nil => simp [nilU] at hy
        | cons e es =>
          obtain ⟨ad, rfl, _⟩ := hA (by rw [← hn]; simp)
          cases o <;> simp [nilU] at hy <;> subst hy <;> exact ⟨some ad, n, c, rfl, by simp⟩
      case ne a c => cases o <;> simp [nilU] at hy <;> subst hy <;> exact ⟨some a, 0, c, rfl, by simp⟩
      all_goals (have h0 : (none : Option Bool) = some y := hy; cases h0)
    all_goals (have h0 : (none : Option Bool) = some y := hy; cases h0)
  obtain ⟨A, n, c, rfl, hc⟩ := key
  rcases hc with ⟨rfl, rfl⟩ | ⟨rfl, rfl⟩
  · exact ⟨by simp [eqGuard], by simp [binOp, run_equal_slice_nil _ _ _ _ _ _ hu]⟩
  · exact ⟨by simp [eqGuard], by simp [binOp, run_equal_slice_nil _ _ _ _ _ _ hu]⟩
theorem binT_sound (hP : TIok P ti) {o : BinOp} {t : TypeId} {p r y : T} (hok : aggOK ti t p) (hy : binT o p r = some y) (a b : Operand) {va vb : Value} (ha : Rep w (fun _ => True) va p) (hb : Rep w (fun _ => True) vb r) :
    (eqGuard o t a b va vb).run P w = .ok () w ∧ ∃ u, (binOp o t va vb).run P w = .ok u w ∧ ∀ B, Rep w B u y := by
  cases ha <;> cases hb <;> simp only [binT, reduceCtorEq] at hy
  case i.i => exact ⟨guard_int .., binI_sound hy t⟩
  case b.b x y' =>
    have hu : P.underlying t = some .bool := by
      unfold aggOK at hok
      simp only at hok
      split at hok
      · rename_i hti
        obtain ⟨d, hd, ho⟩ := (hP.ok _ _ hti).und
        cases d <;> first | exact (Bool.false_ne_true ho).elim | exact hd
      · exact hok.elim
    refine ⟨guard_bool .., ?_⟩
    cases o <;> simp only [Option.some.injEq, reduceCtorEq] at hy <;> subst hy
    · exact ⟨.bool (x == y'), run_eql_bool w t x y' hu, fun B => .b _⟩
    · exact ⟨.bool (!(x == y')), run_neq_bool w t x y' hu, fun B => .b _⟩
  case s.s x y' =>
    refine ⟨guard_string .., ?_⟩
    cases o <;> simp only [Option.some.injEq, reduceCtorEq] at hy <;> subst hy
    · exact ⟨.bool (x.toList == y'.toList), by simp [binOp, Op.stringOp], fun B => .b _⟩
    · exact ⟨.bool (!(x.toList == y'.toList)), by simp [binOp, Op.stringOp], fun B => .b _⟩
  case agg.agg vs cs hs hv vs' cs' hs' hv' =>
    unfold aggOK at hok
    simp only at hok
    cases he : elemOfA ti t with
    | none => rw [he] at hok; exact hok.elim
    | some ni =>
      obtain ⟨n, i⟩ := ni
      rw [he] at hok
      obtain ⟨hn, hsz, hd, hI⟩ := hok
      obtain ⟨e, hu, hT⟩ := elemOfA_some hP he
      have hd' : ∃ k, i.d = .int k := by
        revert hd
        cases i.d <;> simp
      obtain ⟨de, hde, hdk⟩ := hT.und
      have hint : ∃ k, P.underlying e = some (.int k) := by
        obtain ⟨k, hk⟩ := hd'
        rw [hk] at hdk
        cases de <;> first | exact (Bool.false_ne_true hdk).elim | exact ⟨_, hde⟩
      obtain ⟨k, hk⟩ := hint
      have hg : P.eqGuardType P.depth t = false := by
        have : ∃ q, P.depth = q + 2 := ⟨2 * (P.types.size + Made.depth), rfl⟩
        obtain ⟨q, hq⟩ := this
        rw [hq]
        simp [Program.eqGuardType, hu, hk]
      refine ⟨run_eqGuard_agg w o t a b _ _ hg, ?_⟩
      obtain ⟨inf, hi, hisz, _⟩ := hT.info
      have hce : P.cellsOf e = 1 := by simp [Program.cellsOf, hi, hisz, hsz]
      have key : ∀ r', eqCells cs cs' = some r' → (Op.equalIn 10000 t (.agg vs) (.agg vs')).run P w = .ok r' w := fun r' hr' => by
        have hlen : cs'.length = n := by
          have : ∀ (as bs : List T) r, eqCells as bs = some r → as.length = bs.length := by
            intro as
            induction as with
            | nil => intro bs r h; cases bs <;> simp [eqCells] at h ⊢
            | cons x xs ih =>
              intro bs r h
              cases bs with
              | nil => cases x <;> simp [eqCells] at h
              | cons y ys =>
                have : ∃ r', eqCells xs ys = some r' := by
                  cases x <;> cases y <;> simp only [eqCells, reduceCtorEq] at h
                  · split at h
                    · simp only [Option.map_eq_some_iff] at h; obtain ⟨r', hr', _⟩ := h; exact ⟨r', hr'⟩
                    · cases h
                  · simp only [Option.map_eq_some_iff] at h; obtain ⟨r', hr', _⟩ := h; exact ⟨r', hr'⟩
                obtain ⟨r', hr'⟩ := this
                simp [ih ys r' hr']
          rw [← this _ _ _ hr', hn]
        rw [run_equalIn_array w 9999 vs vs' hu hi, hce, List.range_eq_range']
        refine eqItems_cells 9998 hT hd' vs vs' n cs cs' 0 hn hlen hI (fun j x hj => ?_) (fun j x hj => ?_) r' hr'
        · have hlt := (List.getElem?_eq_some_iff.1 hj).1
          have hv0 : vs[j]? = some vs[j] := by simp [hs, hlt]
          exact ⟨vs[j], by rw [Nat.zero_add]; exact hv0, hv j _ _ hv0 hj⟩
        · have hlt := (List.getElem?_eq_some_iff.1 hj).1
          have hv0 : vs'[j]? = some vs'[j] := by simp [hs', hlt]
          exact ⟨vs'[j], by rw [Nat.zero_add]; exact hv0, hv' j _ _ hv0 hj⟩
      cases o <;> simp only [Option.map_eq_some_iff, reduceCtorEq] at hy <;> obtain ⟨r', hr', rfl⟩ := hy
      · exact ⟨.bool r', by rw [run_eql_struct, key r' hr']; rfl, fun B => .b _⟩
      · exact ⟨.bool (!r'), by rw [run_neq_struct, key r' hr']; rfl, fun B => .b _⟩
theorem unT_sound {o : UnOp} {p y : T} (hy : unT o p = some y) {va : Value} (ha : Rep w (fun _ => True) va p) : ∃ u, (Op.unary o va).run P w = .ok u w ∧ ∀ B, Rep w B u y := by
  cases ha <;> cases o <;> simp only [unT, Option.some.injEq, reduceCtorEq] at hy <;> subst hy
  case i.neg k n => exact ⟨.int k (k.wrap (0 - n)), by simp [Op.unary, Op.intArith], fun B => .i _ _⟩
  case i.xor k n => exact ⟨_, by simp only [Op.unary, Op.intBits, Sem.run_pure], fun B => .i _ _⟩
  case b.not x => exact ⟨.bool !x, by simp [Op.unary], fun B => .b _⟩
end
end Go.Proofs.YtgkmhmhbepfiaaaDoor.Pm
set_option linter.all false
namespace Go.Proofs.YtgkmhmhbepfiaaaDoor.Pm
open Go Go.RowKit
section
variable {P : Program} {w : World} {c : Ct} {m : Mp} {h h1 : H} {ti : Nat → Option TI} {tm : Tm} {a : Act}
def BV (d : Nat) (v : Option Value) (p : Int) : Prop := (v = none ∧ p = d) ∨ ∃ k, v = some (.int k p)
theorem bound_bv (hS : Sat c m h tm a w) {d : Nat} {o : Option Operand} {p : Int} (hb : bound tm d o = some p) : BV d (o.map a.eval) p := by
  cases o with
  | none => simp [bound] at hb; exact .inl ⟨rfl, hb.symm⟩
  | some x =>
    simp only [bound] at hb
    split at hb
    · rename_i k n l hx
      simp at hb
      subst hb
      have := ev_vr hS hx
      generalize he : a.eval x = v at this
      cases this with
      | t _ _ _ hr => cases hr with | i k n => exact .inr ⟨k, by simp [he]⟩
    · cases hb
theorem run_sliceBounds (isS : Bool) {len cap : Nat} {lo hi : Option Value} {p q : Int} (hl : BV 0 lo p) (hh : BV len hi q) (h0 : 0 ≤ p) (h1 : p ≤ q) (h2 : q ≤ cap) :
    (Instr.sliceBounds isS len cap lo hi none).run P w = .ok (p.toNat, q.toNat, cap) w := by
  have eq : (q.toNat : Int) = q := Int.toNat_of_nonneg (by omega)
  rcases hl with ⟨rfl, rfl⟩ | ⟨k, rfl⟩ <;> rcases hh with ⟨rfl, rfl⟩ | ⟨k', rfl⟩
  · simp [Instr.sliceBounds]
  · have e1 := fun code => run_sliceBound (P := P) w k' q cap code (by omega) h2
    simp [Instr.sliceBounds, e1]
  · simp [Instr.sliceBounds, run_sliceBound, h0, h1]
  · have e1 := fun code => run_sliceBound (P := P) w k' q cap code (by omega) h2
    have e2 := fun code => run_sliceBound (P := P) w k p q.toNat code h0 (by omega)
    simp [Instr.sliceBounds, e1, e2]
theorem run_sliceBounds3 (isS : Bool) {len cap : Nat} {lo : Option Value} {kh km : IntKind} {p q r : Int} (hl : BV 0 lo p) (h0 : 0 ≤ p) (h1 : p ≤ q) (h2 : q ≤ r) (h3 : r ≤ cap) :
    (Instr.sliceBounds isS len cap lo (some (.int kh q)) (some (.int km r))).run P w = .ok (p.toNat, q.toNat, r.toNat) w := by
  have eq : (q.toNat : Int) = q := Int.toNat_of_nonneg (by omega)
  have er : (r.toNat : Int) = r := Int.toNat_of_nonneg (by omega)
  rcases hl with ⟨rfl, rfl⟩ | ⟨k, rfl⟩
  · have e1 := fun code => run_sliceBound (P := P) w km r cap code (by omega) h3
    have e2 := fun code => run_sliceBound (P := P) w kh q r.toNat code (by omega) (by omega)
    simp [Instr.sliceBounds, e1, e2]
  · have e1 := fun code => run_sliceBound (P := P) w km r cap code (by omega) h3
    have e2 := fun code => run_sliceBound (P := P) w kh q r.toNat code (by omega) (by omega)
    have e3 := fun code => run_sliceBound (P := P) w k p q.toNat code h0 (by omega)
    simp [Instr.sliceBounds, e1, e2, e3]
theorem run_sliceAt_any {t e : TypeId} {i : TI} (hu : P.underlying t = some (.slice e)) (hT : TIr P e i) (A : Option Addr) (len cap : Nat) (lo hi mx : Option Value) {l r k : Nat}
    (hb : (Instr.sliceBounds true len cap lo hi mx).run P w = .ok (l, r, k) w) :
    (Instr.sliceAt t (.slice A len cap) lo hi mx).run P w = .ok (.slice (if k = l then A else A.map (·.add (l * i.sz))) (r - l) (k - l)) w := by
  simp [Instr.sliceAt, Instr.slice, run_underlying hu, hb, hT.run_size]
theorem cut3_some {n : Nat} {lo hi : Option Int} {mx : Option (Option Int)} {p : Prop} {o k : Nat} {e : Bool} (hc : cut3 n lo hi mx = some (p, o, k, e)) :
    ∃ x y, lo = some x ∧ hi = some y ∧ o = x.toNat ∧ k = (y - x).toNat ∧ ((mx = none ∧ e = false ∧ p = (0 ≤ x ∧ x ≤ y ∧ y ≤ n)) ∨ ∃ r, mx = some (some r) ∧ e = decide (r = x) ∧ p = (0 ≤ x ∧ x ≤ y ∧ y ≤ r ∧ r ≤ n)) := by
  unfold cut3 at hc
  split at hc <;> simp only [Option.some.injEq, Prod.mk.injEq, reduceCtorEq] at hc
  · obtain ⟨rfl, rfl, rfl, rfl⟩ := hc; exact ⟨_, _, rfl, rfl, rfl, rfl, .inl ⟨rfl, rfl, rfl⟩⟩
  · obtain ⟨rfl, rfl, rfl, rfl⟩ := hc; exact ⟨_, _, rfl, rfl, rfl, rfl, .inr ⟨_, rfl, rfl, rfl⟩⟩
theorem slice_bounds (hS : Sat c m h tm a w) (isS : Bool) {n len cap : Nat} {lo hi mx : Option Operand} {p : Prop} {o k : Nat} {e : Bool}
    (hc : cut3 len (bound tm 0 lo) (bound tm len hi) (match mx, hi with
      | none, _ => none
      | some _, some _ => some (bound tm 0 mx)
      | some _, none => some none) = some (p, o, k, e)) (hp : p) (hcap : len ≤ cap) :
    ∃ r, (Instr.sliceBounds isS len cap (lo.map a.eval) (hi.map a.eval) (mx.map a.eval)).run P w = .ok (o, o + k, r) w ∧ o + k ≤ r ∧ r ≤ cap ∧ o + k ≤ len ∧ (e = true → r = o ∧ k = 0) := by
  obtain ⟨x, y, hx, hy, rfl, rfl, hrest⟩ := cut3_some hc
  have bx := bound_bv hS hx
  have by_ := bound_bv hS hy
  rcases hrest with ⟨hm, rfl, rfl⟩ | ⟨r, hm, rfl, rfl⟩
  · obtain ⟨h0, h1, h2⟩ := hp
    have : mx = none := by
      cases mx with
      | none => rfl
      | some v => cases hi <;> simp at hm
    subst this
    refine ⟨cap, ?_, by omega, by omega, by omega, by simp⟩
    rw [show x.toNat + (y - x).toNat = y.toNat by omega]
    exact run_sliceBounds isS bx by_ h0 h1 (by omega)
  · obtain ⟨h0, h1, h2, h3⟩ := hp
    cases mx with
    | none => simp at hm
    | some v =>
      cases hi with
      | none => simp at hm
      | some u =>
        simp only [Option.some.injEq] at hm
        have br := bound_bv hS hm
        rcases br with ⟨hn, _⟩ | ⟨kr, hr⟩
        · cases hn
        · rcases by_ with ⟨hn, _⟩ | ⟨kh, hh⟩
          · cases hn
          · refine ⟨r.toNat, ?_, by omega, by omega, by omega, fun e => by simp at e; subst e; omega⟩
            rw [hr, hh, show x.toNat + (y - x).toNat = y.toNat by omega]
            exact run_sliceBounds3 isS bx h0 h1 h2 (by omega)
theorem qSlice_sound (hP : TIok P ti) (hS : Sat c m h tm a w) (hs : Sub h1 h) {t : Nat} {v : AV} {rv : Value} (hv : VR m c.B h w rv v) {lo hi mx : Option Operand} {p : Prop} {x : AV} {us : List (Nat × Blk)}
    (hq : qSlice ti tm h1 t v lo hi mx = some (p, x, us)) (hp : p) :
    us = [] ∧ ∃ r, (Instr.sliceAt t rv (lo.map a.eval) (hi.map a.eval) (mx.map a.eval)).run P w = .ok r w ∧ VR m c.B h w r x := by
  unfold qSlice at hq
  simp only at hq
  split at hq
  · -- a slice that is read
    rename_i es l
    split at hq
    · rename_i i p' o n e hi' hc
      obtain ⟨et, hu, hT⟩ := elemOfS_some hP hi'
      cases hv with
      | t _ _ _ hr =>
        cases hr with
        | sl A len cap _ z vals hn hcap hroom hz0 hz hA hvv =>
          subst hn
          split at hq
          · simp only [Option.some.injEq, Prod.mk.injEq] at hq
            obtain ⟨rfl, rfl, rfl⟩ := hq
            obtain ⟨r, hb, h1', h2', h3', h4'⟩ := slice_bounds (P := P) (n := 0) hS true hc hp hcap
            obtain ⟨rfl, rfl⟩ := h4' rfl
            refine ⟨rfl, _, run_sliceAt_any hu hT A _ _ _ _ _ hb, ?_⟩
            simpa using VR.e0 _
          · simp only [Option.some.injEq, Prod.mk.injEq] at hq
            obtain ⟨rfl, rfl, rfl⟩ := hq
            obtain ⟨hp1, hp2⟩ := hp
            obtain ⟨r, hb, h1', h2', h3', _⟩ := slice_bounds (P := P) (n := 0) hS true hc hp1 hcap
            refine ⟨rfl, _, run_sliceAt_any hu hT A _ _ _ _ _ hb, .t _ _ _ ?_⟩
            refine .sl _ _ _ _ z (fun i j => vals (o + i) j) (by simp; omega) (by omega) (by omega) (fun e => by
              by_cases hk : r = o
              · omega
              · rw [if_neg hk] at e
                have := hz0 (by simpa using e)
                omega) (fun i e he => ?_) (fun h0 => ?_) (fun i j e x he hx => ?_)
            · rw [List.getElem?_take_of_lt (by have := (List.getElem?_eq_some_iff.1 he).1; simp at this; omega), List.getElem?_drop] at he
              exact hz _ _ he
            · obtain ⟨ad, hA', hB, hcell⟩ := hA (by omega)
              have hlt : o < es.length := by omega
              have hel := hz o _ (List.getElem?_eq_getElem hlt)
              rw [if_neg (by omega), hA']
              refine ⟨ad.add (o * i.sz), rfl, by rw [block_add]; exact hB, fun i' j hi hj => ?_⟩
              rw [add_add']
              have hoz : o * i.sz = o * z := by
                rcases hp2 with h0' | hall
                · rw [h0', Nat.zero_mul, Nat.zero_mul]
                · rw [← (hall _ (List.getElem_mem hlt)).1, hel]
              rw [hoz, ← Nat.add_assoc, ← Nat.add_mul]
              exact hcell (o + i') j (by omega) hj
            · rw [List.getElem?_take_of_lt (by have := (List.getElem?_eq_some_iff.1 he).1; simp at this; omega), List.getElem?_drop] at he
              exact hvv _ _ _ _ he hx
    · cases hq
  · -- a row
    rename_i id ver off len
    split at hq
    · rename_i i z es l' p' o n e hi' hrow hc
      simp only [Option.some.injEq, Prod.mk.injEq] at hq
      obtain ⟨rfl, rfl, rfl⟩ := hq
      obtain ⟨hp1, rfl⟩ := hp
      obtain ⟨et, hu, hT⟩ := elemOfS_some hP hi'
      cases hv with
      | row _ _ _ _ cap A hid hver hcap hr =>
        obtain ⟨r, hb, h1', h2', h3', _⟩ := slice_bounds (P := P) (n := 0) hS true hc hp1 hcap
        refine ⟨rfl, _, run_sliceAt_any hu hT A _ _ _ _ _ hb, ?_⟩
        rw [show o + n - o = n by omega]
        refine .row id ver (off + o) n (r - o) _ hid hver (by omega) fun z' es' l'' hrow' => ?_
        obtain ⟨h4, h5⟩ := hr _ _ _ hrow'
        refine ⟨by omega, fun h0 => ?_⟩
        have hzz : z' = i.sz := by
          have := (hs.row hrow).2
          rw [hrow'] at this
          simp at this
          exact this.1
        subst hzz
        rw [if_neg (by omega), h5 (by omega)]
        simp only [Option.map_some, add_add', Nat.add_mul]
    · cases hq
  · split at hq
    · rename_i i p' o n e hi' hc
      simp only [Option.some.injEq, Prod.mk.injEq] at hq
      obtain ⟨rfl, rfl, rfl⟩ := hq
      obtain ⟨et, hu, hT⟩ := elemOfS_some hP hi'
      cases hv
      obtain ⟨r, hb, h1', h2', h3', _⟩ := slice_bounds (P := P) (n := 0) hS true hc hp (Nat.le_refl _)
      obtain rfl : o = 0 := by omega
      obtain rfl : n = 0 := by omega
      obtain rfl : r = 0 := by omega
      refine ⟨rfl, _, run_sliceAt_any hu hT none _ _ _ _ _ hb, ?_⟩
      simpa using VR.nl
    · cases hq
  · split at hq
    · rename_i i p' o n e hi' hc
      simp only [Option.some.injEq, Prod.mk.injEq] at hq
      obtain ⟨rfl, rfl, rfl⟩ := hq
      obtain ⟨et, hu, hT⟩ := elemOfS_some hP hi'
      cases hv with
      | e0 A =>
        obtain ⟨r, hb, h1', h2', h3', _⟩ := slice_bounds (P := P) (n := 0) hS true hc hp (Nat.le_refl _)
        obtain rfl : o = 0 := by omega
        obtain rfl : n = 0 := by omega
        obtain rfl : r = 0 := by omega
        refine ⟨rfl, _, run_sliceAt_any hu hT A _ _ _ _ _ hb, ?_⟩
        simpa using VR.e0 A
    · cases hq
  · -- an array
    rename_i id off
    split at hq
    · rename_i k i cs hi' hcs
      split at hq
      · rename_i p' o n e hc
        simp only [Option.some.injEq, Prod.mk.injEq] at hq
        obtain ⟨rfl, rfl, rfl⟩ := hq
        obtain ⟨hp1, hp2⟩ := hp
        obtain ⟨et, hu, hT⟩ := elemOfA_some hP hi'
        cases hv with
        | ptr _ _ hid =>
          obtain ⟨r, hb, h1', h2', h3', _⟩ := slice_bounds (P := P) (n := 0) (mx := none) hS false (cap := k) hc hp1 (Nat.le_refl _)
          refine ⟨rfl, .slice (some (if r = o then (⟨m.φ id, off, none⟩ : Addr) else (⟨m.φ id, off, none⟩ : Addr).add (o * i.sz))) (o + n - o) (r - o), ?_, ?_⟩
          · simp only [Option.map_none] at hb
            simp [Instr.sliceAt, run_underlying hu, Instr.sureAddr, hb, hT.run_size]
          · rw [show o + n - o = n by omega]
            refine .vs id _ n _ (r - o) _ hid (by omega) fun h0 => ?_
            rw [if_neg (by omega), add_lit]
      · cases hq
    · cases hq
  · cases hq
end
end Go.Proofs.YtgkmhmhbepfiaaaDoor.Pm
set_option linter.all false
namespace Go.Proofs.YtgkmhmhbepfiaaaDoor.Pm
open Go Go.RowKit
section
variable {P : Program} {w : World} {c : Ct} {m : Mp} {h h1 : H} {ti : Nat → Option TI} {tm : Tm} {a : Act}
theorem fieldOf_some (hP : TIok P ti) {t f o : Nat} {i : TI} (hf : fieldOf ti t f = some (o, i)) : ∃ fs fl, P.underlying t = some (.struct fs) ∧ fs[f]? = some fl ∧ fl.offset = o ∧ TIr P fl.type i := by
  unfold fieldOf at hf
  split at hf
  · rename_i l _ _ _ hti
    split at hf
    · rename_i o' ft hl
      simp only [Option.map_eq_some_iff, Prod.mk.injEq] at hf
      obtain ⟨i', hi', rfl, rfl⟩ := hf
      obtain ⟨d, hd, ho⟩ := (hP.ok _ _ hti).und
      cases d <;> first | exact (Bool.false_ne_true ho).elim | skip
      rename_i fs
      simp only [dOK, beq_iff_eq] at ho
      rw [← ho, List.getElem?_map] at hl
      simp only [Option.map_eq_some_iff, Prod.mk.injEq] at hl
      obtain ⟨fl, h1, rfl, rfl⟩ := hl
      exact ⟨fs, fl, hd, by simpa using h1, rfl, hP.ok _ _ hi'⟩
    · cases hf
  · cases hf
theorem run_fieldAt {t f o : Nat} {i : TI} (hP : TIok P ti) (hf : fieldOf ti t f = some (o, i)) (hz : i.sz ≠ 0) (x : Addr) : (Instr.fieldAt t (.pointer (some x)) f).run P w = .ok (.pointer (some (x.add o))) w := by
  obtain ⟨fs, fl, hu, hfl, rfl, hT⟩ := fieldOf_some hP hf
  simp [Instr.fieldAt, run_underlying hu, hfl, Instr.sureAddr, fieldPlace, hT.run_size, hz]
theorem run_field {t f o : Nat} {i : TI} (hP : TIok P ti) (hf : fieldOf ti t f = some (o, i)) (vs : Array Value) : ∃ ft, TIr P ft i ∧ (Instr.field t (.agg vs) f).run P w = (part ft vs o).run P w := by
  obtain ⟨fs, fl, hu, hfl, rfl, hT⟩ := fieldOf_some hP hf
  exact ⟨fl.type, hT, by simp [Instr.field, run_underlying hu, hfl, asAgg]⟩
theorem pt_drop {B : Nat → Prop} {v : Value} {cs : List T} (hr : Rep w B v (.pt cs)) (o : Nat) : ∃ x, v = .pointer (some x) ∧ Rep w B (.pointer (some (x.add o))) (.pt (cs.drop o)) := by
  cases hr with
  | pt x _ vals hB hc hv =>
    refine ⟨x, rfl, .pt _ _ (fun j => vals (o + j)) (by rw [block_add]; exact hB) (fun j hj => ?_) (fun j y hy => ?_)⟩
    · rw [add_add']
      exact hc _ (by simp at hj; omega)
    · rw [List.getElem?_drop] at hy
      exact hv _ _ hy
theorem run_indexAt_slice {t e : TypeId} {i : TI} (hu : P.underlying t = some (.slice e)) (hT : TIr P e i) (x : Addr) (len cap : Nat) (k : IntKind) (p : Int) (h0 : 0 ≤ p) (h1 : p < len) :
    (Instr.indexAt t (.slice (some x) len cap) (.int k p)).run P w = .ok (.pointer (some (x.add (p.toNat * i.sz)))) w := by
  simp [Instr.indexAt, asIntOf, run_underlying hu, h0, h1, hT.run_size]
theorem run_indexAt_array {t e : TypeId} {n : Nat} {i : TI} (hu : P.underlying t = some (.array n e)) (hT : TIr P e i) (x : Addr) (k : IntKind) (p : Int) (h0 : 0 ≤ p) (h1 : p < n) :
    (Instr.indexAt t (.pointer (some x)) (.int k p)).run P w = .ok (.pointer (some (x.add (p.toNat * i.sz)))) w := by
  simp [Instr.indexAt, asIntOf, run_underlying hu, h0, h1, hT.run_size, Instr.sureAddr]
theorem qIxA_sound (hP : TIok P ti) (hM : Mem c m h w) (hs : Sub h1 h) {t : Nat} {v : AV} {rv : Value} (hv : VR m c.B h w rv v) {k : IntKind} {p : Int} {pr : Prop} {x : AV} {us : List (Nat × Blk)}
    (hq : qIxA ti h1 t v p = some (pr, x, us)) (hp : pr) : us = [] ∧ ∃ r, (Instr.indexAt t rv (.int k p)).run P w = .ok r w ∧ VR m c.B h w r x := by
  unfold qIxA at hq
  split at hq
  · rename_i es l
    split at hq
    · rename_i i hi
      simp only [Option.some.injEq, Prod.mk.injEq] at hq
      obtain ⟨rfl, rfl, rfl⟩ := hq
      obtain ⟨h0, hsome, hel, hz0⟩ := hp
      obtain ⟨e, he⟩ := Option.isSome_iff_exists.1 hsome
      rw [he] at hel ⊢
      simp only [Option.getD_some] at hel ⊢
      obtain ⟨et, hu, hT⟩ := elemOfS_some hP hi
      have hlt := (List.getElem?_eq_some_iff.1 he).1
      cases hv with
      | t _ _ _ hr =>
        cases hr with
        | sl A n cap _ z vals hn hcap hroom hz0 hz hA hvv =>
          obtain ⟨ad, rfl, hB, hcell⟩ := hA (by omega)
          have hzz : z = i.sz := by rw [← hel]; exact (hz _ _ he).symm
          subst hzz
          refine ⟨by trivial, _, run_indexAt_slice hu hT ad n cap k p h0 (by omega), .t _ _ _ (.pt _ _ (fun j => vals p.toNat j) (by rw [block_add]; exact hB) (fun j hj => ?_) (fun j y hy => hvv _ _ _ _ he hy))⟩
          rw [add_add']
          exact hcell _ _ (by omega) (by omega)
    · cases hq
  · rename_i D es l
    split at hq
    · rename_i i hi
      simp only [Option.some.injEq, Prod.mk.injEq] at hq
      obtain ⟨rfl, rfl, rfl⟩ := hq
      obtain ⟨h0, hsome, hel, hz0⟩ := hp
      obtain ⟨e, he⟩ := Option.isSome_iff_exists.1 hsome
      rw [he] at hel ⊢
      simp only [Option.getD_some] at hel ⊢
      obtain ⟨et, hu, hT⟩ := elemOfS_some hP hi
      have hlt := (List.getElem?_eq_some_iff.1 he).1
      cases hv with
      | t _ _ _ hr =>
        cases hr with
        | inn _ _ _ _ hr =>
        cases hr with
        | sl A n cap _ z vals hn hcap hroom hz0 hz hA hvv =>
          obtain ⟨ad, rfl, hB, hcell⟩ := hA (by omega)
          have hzz : z = i.sz := by rw [← hel]; exact (hz _ _ he).symm
          subst hzz
          refine ⟨by trivial, _, run_indexAt_slice hu hT ad n cap k p h0 (by omega), .t _ _ _ (.inn D _ _ rfl (.pt _ _ (fun j => vals p.toNat j) (by rw [block_add]; exact hB) (fun j hj => ?_) (fun j y hy => hvv _ _ _ _ he hy)))⟩
          rw [add_add']
          exact hcell _ _ (by omega) (by omega)
    · cases hq
  · rename_i id ver off len
    split at hq
    · rename_i i z es l hi hrow
      simp only [Option.some.injEq, Prod.mk.injEq] at hq
      obtain ⟨rfl, rfl, rfl⟩ := hq
      obtain ⟨h0, h1', h2, rfl, h3⟩ := hp
      obtain ⟨et, hu, hT⟩ := elemOfS_some hP hi
      cases hv with
      | row _ _ _ _ cap A hid hver hcap hr =>
        obtain ⟨_, hrow'⟩ := hs.row hrow
        obtain ⟨h4, h5⟩ := hr _ _ _ hrow'
        rw [h5 (by omega)]
        refine ⟨rfl, _, run_indexAt_slice hu hT _ len cap k p h0 h1', .eptr _ _ _ _ _ hid hver fun z' es' l' hrow'' => ?_⟩
        rw [hrow'] at hrow''
        simp at hrow''
        obtain ⟨rfl, _⟩ := hrow''
        rw [add_add', Nat.add_mul, Nat.add_zero]
    · cases hq
  · rename_i id off len z
    split at hq
    · rename_i i hi
      simp only [Option.some.injEq, Prod.mk.injEq] at hq
      obtain ⟨rfl, rfl, rfl⟩ := hq
      obtain ⟨h0, h1', rfl⟩ := hp
      obtain ⟨et, hu, hT⟩ := elemOfS_some hP hi
      cases hv with
      | vs _ _ _ _ cap A hid hcap hA =>
        rw [hA (by omega)]
        refine ⟨rfl, _, run_indexAt_slice hu hT _ len cap k p h0 h1', ?_⟩
        rw [add_lit]
        exact .ptr _ _ hid
    · cases hq
  · rename_i id off
    split at hq
    · rename_i n i hi
      simp only [Option.some.injEq, Prod.mk.injEq] at hq
      obtain ⟨rfl, rfl, rfl⟩ := hq
      obtain ⟨et, hu, hT⟩ := elemOfA_some hP hi
      cases hv with
      | ptr _ _ hid =>
        refine ⟨rfl, _, run_indexAt_array hu hT _ k p hp.1 hp.2, ?_⟩
        rw [add_lit]
        exact .ptr _ _ hid
    · cases hq
  · rename_i cs l
    split at hq
    · rename_i n i hi
      simp only [Option.some.injEq, Prod.mk.injEq] at hq
      obtain ⟨rfl, rfl, rfl⟩ := hq
      obtain ⟨et, hu, hT⟩ := elemOfA_some hP hi
      cases hv with
      | t _ _ _ hr =>
        obtain ⟨y, rfl, hy⟩ := pt_drop hr (p.toNat * i.sz)
        exact ⟨rfl, _, run_indexAt_array hu hT _ k p hp.1 hp.2, .t _ _ _ hy⟩
    · cases hq
  · rename_i id ver k' j
    split at hq
    · rename_i n i hi
      simp only [Option.some.injEq, Prod.mk.injEq] at hq
      obtain ⟨rfl, rfl, rfl⟩ := hq
      obtain ⟨et, hu, hT⟩ := elemOfA_some hP hi
      cases hv with
      | eptr _ _ _ _ x hid hver hr =>
        refine ⟨rfl, _, run_indexAt_array hu hT _ k p hp.1 hp.2, .eptr _ _ _ _ _ hid hver fun z es l hrow => ?_⟩
        rw [hr _ _ _ hrow, add_add', Nat.add_assoc]
    · cases hq
  · cases hq
theorem evs_vr (hS : Sat c m h tm a w) : ∀ {l : List Operand} {vs : List AV}, evs tm l = some vs → (l.map a.eval).length = vs.length ∧ ∀ (j : Nat) (v : Value) (x : AV), (l.map a.eval)[j]? = some v → vs[j]? = some x → VR m c.B h w v x
  | [], vs, hv => by simp [evs] at hv; subst hv; simp
  | o :: l, vs, hv => by
    simp only [evs] at hv
    split at hv
    · rename_i v vs' h1 h2
      simp only [Option.some.injEq] at hv
      subst hv
      obtain ⟨hl, hg⟩ := evs_vr hS h2
      refine ⟨by simpa using hl, fun j u x hu hx => ?_⟩
      cases j with
      | zero => simp at hu hx; subst hu; subst hx; exact ev_vr hS h1
      | succ j => exact hg j u x (by simpa using hu) (by simpa using hx)
    · cases hv
theorem evs_one (hS : Sat c m h tm a w) {l : List Operand} {v : AV} (hv : evs tm l = some [v]) : ∃ o, l = [o] ∧ VR m c.B h w (a.eval o) v := by
  obtain ⟨hl, hg⟩ := evs_vr hS hv
  match l, hl with
  | [o], _ => exact ⟨o, rfl, hg 0 _ _ rfl rfl⟩
theorem evs_two (hS : Sat c m h tm a w) {l : List Operand} {u v : AV} (hv : evs tm l = some [u, v]) : ∃ o p, l = [o, p] ∧ VR m c.B h w (a.eval o) u ∧ VR m c.B h w (a.eval p) v := by
  obtain ⟨hl, hg⟩ := evs_vr hS hv
  match l, hl with
  | [o, p], _ => exact ⟨o, p, rfl, hg 0 _ _ rfl rfl, hg 1 _ _ rfl rfl⟩
def Out (c : Ct) (h : H) (tm : Tm) (a : Act) (r : Result Value) (v : AV) : Prop := ∃ rv w' m', r = .ok rv w' ∧ VR m' c.B h w' rv v ∧ Sat c m' h tm a w'
theorem Out.same (hS : Sat c m h tm a w) {r : Result Value} {v : AV} (hr : ∃ rv, r = .ok rv w ∧ VR m c.B h w rv v) : Out c h tm a r v := by
  obtain ⟨rv, h1, h2⟩ := hr
  exact ⟨rv, w, m, h1, h2, hS⟩
def uH (h : H) : List (Nat × Blk) → H
  | [] => h
  | u :: us => uH (fun i => if i = u.1 then some u.2 else h i) us
theorem lenOf_vr {v : AV} {n : Nat} (hl : lenOf v = some n) {rv : Value} (hv : VR m c.B h w rv v) : ∃ A k, rv = .slice A n k := by
  unfold lenOf at hl
  split at hl <;> simp only [Option.some.injEq, reduceCtorEq] at hl <;> subst hl
  · cases hv with
    | t _ _ _ hr => cases hr with | sl A n k _ z vals hn => subst hn; exact ⟨_, _, rfl⟩
  · cases hv with
    | t _ _ _ hr => cases hr with | inn _ _ _ _ hr => cases hr with | sl A n k _ z vals hn => subst hn; exact ⟨_, _, rfl⟩
  · cases hv; exact ⟨_, _, rfl⟩
  · cases hv; exact ⟨_, _, rfl⟩
  · cases hv; exact ⟨_, _, rfl⟩
  · cases hv; exact ⟨_, _, rfl⟩
theorem qLen_sound (hP : TIok P ti) {t : Nat} {v : AV} {rv : Value} (hv : VR m c.B h w rv v) (ty : TypeId) {p : Prop} {x : AV} {us : List (Nat × Blk)} (hq : qLen ti t v = some (p, x, us)) (hp : p) :
    us = [] ∧ ∃ r, (Builtin.len_ #[t] ty #[rv]).run P w = .ok r w ∧ VR m c.B h w r x := by
  unfold qLen at hq
  split at hq
  · rename_i y l hti
    simp only [okR, Option.some.injEq, Prod.mk.injEq] at hq
    obtain ⟨rfl, rfl, rfl⟩ := hq
    obtain ⟨d, hd, ho⟩ := (hP.ok _ _ hti).und
    cases d <;> first | exact (Bool.false_ne_true ho).elim | skip
    cases hv with
    | t _ _ _ hr =>
      cases hr
      exact ⟨rfl, .int .i64 y.size, by simp [Builtin.len_, run_underlying hd, goInt], .t _ _ _ (.i _ _)⟩
  · rename_i e _ _ _ v hti
    split at hq
    · rename_i n hl
      simp only [okR, Option.some.injEq, Prod.mk.injEq] at hq
      obtain ⟨rfl, rfl, rfl⟩ := hq
      obtain ⟨d, hd, ho⟩ := (hP.ok _ _ hti).und
      cases d <;> first | exact (Bool.false_ne_true ho).elim | skip
      obtain ⟨A, k, rfl⟩ := lenOf_vr hl hv
      exact ⟨rfl, .int .i64 n, by simp [Builtin.len_, run_underlying hd, goInt], .t _ _ _ (.i _ _)⟩
    · cases hq
  · cases hq
def still : Op → Bool
  | .move _ | .assign _ | .pick .. | .load .. | .nilCheck _ | .binOp .. | .unOp .. | .slice .. | .fieldAddr .. | .field .. | .indexAddr .. | .index .. | .extract .. | .makeFunc .. => true
  | .call { callee := .builtin b, .. } => match b with
    | .len | .cap | .min | .max => true
    | _ => false
  | _ => false
theorem q_still (hP : TIok P ti) (hS : Sat c m h tm a w) (hs : Sub h1 h) {n : Nat} {o : Oper} (ho : still o.op = true) {p : Prop} {v : AV} {us : List (Nat × Blk)} (hq : q ti tm h1 n o.op = some (p, v, us)) (hp : p) :
    us = [] ∧ ∃ rv, (execOp a.eval o).run P w = .ok (.value rv) w ∧ VR m c.B h w rv v := by
  obtain ⟨dst, op, ty, pos, after, guard⟩ := o
  simp only at ho hq ⊢
  cases op <;> simp only [still, Bool.false_eq_true] at ho
  case move x =>
    simp only [q] at hq
    split at hq
    · rename_i u hu
      simp only [okR, Option.some.injEq, Prod.mk.injEq] at hq
      obtain ⟨rfl, rfl, rfl⟩ := hq
      exact ⟨rfl, _, by simp [execOp], ev_vr hS hu⟩
    · cases hq
  case assign x =>
    simp only [q] at hq
    split at hq
    · rename_i u hu
      simp only [okR, Option.some.injEq, Prod.mk.injEq] at hq
      obtain ⟨rfl, rfl, rfl⟩ := hq
      exact ⟨rfl, _, by simp [execOp], ev_vr hS hu⟩
    · cases hq
  case pick x y z =>
    simp only [q] at hq
    split at hq
    · rename_i b l hx
      have hb := ev_vr hS hx
      generalize hbe : a.eval x = bv at hb
      cases hb with
      | t _ _ _ hr =>
        cases hr
        split at hq
        · rename_i u hu
          simp only [okR, Option.some.injEq, Prod.mk.injEq] at hq
          obtain ⟨rfl, rfl, rfl⟩ := hq
          cases b
          · exact ⟨rfl, _, by simp [execOp, hbe, asBool]; rfl, ev_vr hS (by simpa using hu)⟩
          · exact ⟨rfl, _, by simp [execOp, hbe, asBool]; rfl, ev_vr hS (by simpa using hu)⟩
        · cases hq
    · cases hq
  case load t x =>
    simp only [q] at hq
    split at hq
    · rename_i u hu
      obtain ⟨h1', r, h2, h3⟩ := qLoad_sound hP hS.mem hs (ev_vr hS hu) hq hp
      exact ⟨h1', r, by simp only [execOp, Sem.run_bind, h2]; rfl, h3⟩
    · cases hq
  case nilCheck x =>
    simp only [q] at hq
    split at hq
    · rename_i id off hu
      simp only [okR, Option.some.injEq, Prod.mk.injEq] at hq
      obtain ⟨rfl, rfl, rfl⟩ := hq
      have hv := ev_vr hS hu
      refine ⟨rfl, a.eval x, ?_, hv⟩
      generalize he : a.eval x = r at hv
      cases hv
      simp [execOp, he]
    · rename_i id ver k j hu
      simp only [okR, Option.some.injEq, Prod.mk.injEq] at hq
      obtain ⟨rfl, rfl, rfl⟩ := hq
      have hv := ev_vr hS hu
      refine ⟨rfl, a.eval x, ?_, hv⟩
      generalize he : a.eval x = r at hv
      cases hv
      simp [execOp, he]
    · rename_i cs l hu
      simp only [okR, Option.some.injEq, Prod.mk.injEq] at hq
      obtain ⟨rfl, rfl, rfl⟩ := hq
      have hv := ev_vr hS hu
      refine ⟨rfl, a.eval x, ?_, hv⟩
      generalize he : a.eval x = r at hv
      cases hv with
      | t _ _ _ hr =>
        cases hr
        simp [execOp, he]
    · rename_i f cap hu
      simp only [okR, Option.some.injEq, Prod.mk.injEq] at hq
      obtain ⟨rfl, rfl, rfl⟩ := hq
      have hv := ev_vr hS hu
      refine ⟨rfl, a.eval x, ?_, hv⟩
      generalize he : a.eval x = r at hv
      cases hv
      simp [execOp, he]
    · cases hq
  case binOp op t x y t' =>
    simp only [q] at hq
    split at hq
    · rename_i u v' hu hv'
      split at hq
      · rename_i y0 hy0
        simp only [Option.some.injEq, Prod.mk.injEq] at hq
        obtain ⟨rfl, rfl, rfl⟩ := hq
        obtain ⟨hg, hrun⟩ := nilQ_sound (P := P) (w := w) hP hp hy0 x y (ev_vr hS hu) (ev_vr hS hv')
        exact ⟨rfl, _, by simp only [execOp, Sem.run_bind, hg, Result.andThen_ok, hrun]; rfl, .t _ _ _ (.b _)⟩
      · split at hq
        · rename_i p' r' hp' hr'
          split at hq
          · rename_i y' hy'
            simp only [Option.some.injEq, Prod.mk.injEq] at hq
            obtain ⟨rfl, rfl, rfl⟩ := hq
            obtain ⟨hg, rv, hrun, hrep⟩ := binT_sound (w := w) hP hp hy' x y (pureT_rep hp' (ev_vr hS hu)) (pureT_rep hr' (ev_vr hS hv'))
            exact ⟨rfl, rv, by simp only [execOp, Sem.run_bind, hg, Result.andThen_ok, hrun]; rfl, .t _ _ _ (hrep _)⟩
          · cases hq
        · cases hq
    · cases hq
  case unOp op t x =>
    simp only [q] at hq
    split at hq
    · rename_i p' l hu
      split at hq
      · rename_i y' hy'
        simp only [okR, Option.some.injEq, Prod.mk.injEq] at hq
        obtain ⟨rfl, rfl, rfl⟩ := hq
        obtain ⟨rv, hrun, hrep⟩ := unT_sound (P := P) (w := w) hy' (pureT_rep (p := p') rfl (ev_vr hS hu))
        exact ⟨rfl, rv, by simp only [execOp, Sem.run_bind, hrun, Result.andThen_ok]; rfl, .t _ _ _ (hrep _)⟩
      · cases hq
    · cases hq
  case slice t x lo hi mx =>
    simp only [q] at hq
    split at hq
    · rename_i u hu
      obtain ⟨h1', r, h2, h3⟩ := qSlice_sound (P := P) hP hS hs (ev_vr hS hu) hq hp
      exact ⟨h1', r, by simp only [execOp, Sem.run_bind, h2]; rfl, h3⟩
    · cases hq
  case fieldAddr t x f =>
    simp only [q] at hq
    split at hq
    · rename_i id off o i hu hf
      simp only [Option.some.injEq, Prod.mk.injEq] at hq
      obtain ⟨rfl, rfl, rfl⟩ := hq
      have hv := ev_vr hS hu
      generalize he : a.eval x = r at hv
      cases hv with
      | ptr _ _ hid => exact ⟨rfl, _, by simp only [execOp, he, Sem.run_bind, run_fieldAt hP hf hp, Result.andThen_ok]; rfl, by rw [add_lit]; exact .ptr _ _ hid⟩
    · rename_i cs l o i hu hf
      simp only [Option.some.injEq, Prod.mk.injEq] at hq
      obtain ⟨rfl, rfl, rfl⟩ := hq
      have hv := ev_vr hS hu
      generalize he : a.eval x = r at hv
      cases hv with
      | t _ _ _ hr =>
        obtain ⟨y, rfl, hy⟩ := pt_drop hr o
        exact ⟨rfl, _, by simp only [execOp, he, Sem.run_bind, run_fieldAt hP hf hp, Result.andThen_ok]; rfl, .t _ _ _ hy⟩
    · rename_i D cs l o i hu hf
      simp only [Option.some.injEq, Prod.mk.injEq] at hq
      obtain ⟨rfl, rfl, rfl⟩ := hq
      have hv := ev_vr hS hu
      generalize he : a.eval x = r at hv
      cases hv with
      | t _ _ _ hr =>
        cases hr with
        | inn _ _ _ h1 hr =>
        obtain ⟨y, rfl, hy⟩ := pt_drop hr o
        exact ⟨rfl, _, by simp only [execOp, he, Sem.run_bind, run_fieldAt hP hf hp, Result.andThen_ok]; rfl, .t _ _ _ (.inn _ _ _ rfl hy)⟩
    · rename_i id ver k j o i hu hf
      simp only [Option.some.injEq, Prod.mk.injEq] at hq
      obtain ⟨rfl, rfl, rfl⟩ := hq
      have hv := ev_vr hS hu
      generalize he : a.eval x = r at hv
      cases hv with
      | eptr _ _ _ _ y hid hver hr =>
        exact ⟨rfl, _, by simp only [execOp, he, Sem.run_bind, run_fieldAt hP hf hp, Result.andThen_ok]; rfl, .eptr _ _ _ _ _ hid hver fun z es l hrow => by rw [hr _ _ _ hrow, add_add', Nat.add_assoc]⟩
    · cases hq
  case field t x f =>
    simp only [q] at hq
    split at hq
    · rename_i cs l o i hu hf
      have hv := ev_vr hS hu
      generalize he : a.eval x = r at hv
      cases hv with
      | t _ _ _ hr =>
        cases hr with
        | agg vs _ hsz hvv =>
          obtain ⟨ft, hT, hrun⟩ := run_field (P := P) (w := w) hP hf vs
          obtain ⟨h1', r, h2, h3⟩ := partT_sound (h := h) hT hsz hvv hq hp
          exact ⟨h1', r, by simp only [execOp, he, Sem.run_bind, hrun, h2, Result.andThen_ok]; rfl, h3⟩
    · rename_i cs o i hu hf
      have hv := ev_vr hS hu
      generalize he : a.eval x = r at hv
      cases hv with
      | agg vs _ hsz hvv =>
        obtain ⟨ft, hT, hrun⟩ := run_field (P := P) (w := w) hP hf vs
        obtain ⟨h1', r, h2, h3⟩ := partA_sound (h := h) hT hsz hvv hq hp
        exact ⟨h1', r, by simp only [execOp, he, Sem.run_bind, hrun, h2, Result.andThen_ok]; rfl, h3⟩
    · cases hq
  case indexAddr t x y =>
    simp only [q] at hq
    split at hq
    · rename_i u k p' l hu hy
      have hi := ev_vr hS hy
      generalize he : a.eval y = r at hi
      cases hi with
      | t _ _ _ hr =>
        cases hr
        obtain ⟨h1', r, h2, h3⟩ := qIxA_sound (P := P) (k := k) hP hS.mem hs (ev_vr hS hu) hq hp
        exact ⟨h1', r, by simp only [execOp, he, Sem.run_bind, h2, Result.andThen_ok]; rfl, h3⟩
    · cases hq
  case index t x y =>
    simp only [q] at hq
    split at hq
    · rename_i cs l k p' l' n i hu hy hA
      split at hq
      · rename_i r' v' u' hpart
        simp only [Option.some.injEq, Prod.mk.injEq] at hq
        obtain ⟨rfl, rfl, rfl⟩ := hq
        obtain ⟨h0, hlt, hp'⟩ := hp
        have hi := ev_vr hS hy
        generalize he : a.eval y = r at hi
        have hv := ev_vr hS hu
        generalize hex : a.eval x = rx at hv
        cases hi with
        | t _ _ _ hr =>
          cases hr
          cases hv with
          | t _ _ _ hr =>
            cases hr with
            | agg vs _ hsz hvv =>
              obtain ⟨et, hut, hT⟩ := elemOfA_some hP hA
              obtain ⟨h1', r, h2, h3⟩ := partT_sound (h := h) hT hsz hvv hpart hp'
              exact ⟨h1', r, by simp [execOp, he, hex, Instr.index, asIntOf, run_underlying hut, h0, hlt, hT.run_size, h2], h3⟩
      · cases hq
    · rename_i cs k p' l' n i hu hy hA
      split at hq
      · rename_i r' v' u' hpart
        simp only [Option.some.injEq, Prod.mk.injEq] at hq
        obtain ⟨rfl, rfl, rfl⟩ := hq
        obtain ⟨h0, hlt, hp'⟩ := hp
        have hi := ev_vr hS hy
        generalize he : a.eval y = r at hi
        have hv := ev_vr hS hu
        generalize hex : a.eval x = rx at hv
        cases hi with
        | t _ _ _ hr =>
          cases hr
          cases hv with
          | agg vs _ hsz hvv =>
            obtain ⟨et, hut, hT⟩ := elemOfA_some hP hA
            obtain ⟨h1', r, h2, h3⟩ := partA_sound (h := h) hT hsz hvv hpart hp'
            exact ⟨h1', r, by simp [execOp, he, hex, Instr.index, asIntOf, run_underlying hut, h0, hlt, hT.run_size, h2], h3⟩
      · cases hq
    · cases hq
  case extract x k =>
    simp only [q] at hq
    split at hq
    · rename_i ys l hu
      simp only [atT, Option.some.injEq, Prod.mk.injEq] at hq
      obtain ⟨rfl, rfl, rfl⟩ := hq
      obtain ⟨y, hy⟩ := Option.isSome_iff_exists.1 hp
      have hv := ev_vr hS hu
      generalize he : a.eval x = r at hv
      cases hv with
      | t _ _ _ hr =>
        cases hr with
        | tup vs _ hsz hvv =>
          have hlt : k < vs.size := by rw [hsz]; exact (List.getElem?_eq_some_iff.1 hy).1
          have hvo : vs[k]? = some vs[k] := by simp [hlt]
          refine ⟨rfl, vs[k], by simp [execOp, he, Instr.extract, hvo], ?_⟩
          rw [hy]
          exact .t _ _ _ (hvv _ _ _ hvo hy)
    · rename_i ys hu
      simp only [atA, Option.some.injEq, Prod.mk.injEq] at hq
      obtain ⟨rfl, rfl, rfl⟩ := hq
      obtain ⟨y, hy⟩ := Option.isSome_iff_exists.1 hp
      have hv := ev_vr hS hu
      generalize he : a.eval x = r at hv
      cases hv with
      | tup vs _ hsz hvv =>
        have hlt : k < vs.size := by rw [hsz]; exact (List.getElem?_eq_some_iff.1 hy).1
        have hvo : vs[k]? = some vs[k] := by simp [hlt]
        refine ⟨rfl, vs[k], by simp [execOp, he, Instr.extract, hvo], ?_⟩
        rw [hy]
        exact hvv _ _ _ hvo hy
    · cases hq
  case makeFunc fn f0 cap =>
    simp only [q] at hq
    split at hq
    · rename_i f vs hf0 hvs
      simp only [okR, Option.some.injEq, Prod.mk.injEq] at hq
      obtain ⟨rfl, rfl, rfl⟩ := hq
      obtain ⟨hl, hg⟩ := evs_vr hS hvs
      have h0 : f0 = #[] := by
        apply Array.ext'
        simpa using hf0
      subst h0
      refine ⟨rfl, .func (.func f) #[] (cap.map a.eval), by simp [execOp, Instr.makeFunc], .fn f (cap.map a.eval) vs (by simpa using hl) fun j v x hv hx => hg j v x ?_ hx⟩
      rw [← Array.toList_map]
      simpa using hv
    · cases hq
  case call cl =>
    obtain ⟨callee, args, tys⟩ := cl
    cases callee <;> simp only [Bool.false_eq_true] at ho
    case builtin b =>
      simp only [q] at hq
      split at hq <;> try cases hq
      rename_i vs hvs
      cases b <;> simp only [Bool.false_eq_true] at ho
      case len =>
        simp only [qBuiltin] at hq
        split at hq <;> try cases hq
        rename_i t v' hty
        obtain ⟨x, hx, hv⟩ := evs_one hS hvs
        obtain ⟨hu, rv, hr, hv'⟩ := qLen_sound (P := P) hP hv ty hq hp
        refine ⟨hu, rv, ?_, hv'⟩
        have e1 : args = #[x] := by apply Array.ext'; simpa using hx
        have e2 : tys = #[t] := by apply Array.ext'; simpa using hty
        subst e1; subst e2
        simp [execOp, resolve, invoke, builtin, hr]
      case cap =>
        simp only [qBuiltin] at hq
        split at hq <;> try cases hq
        all_goals
          rename_i t hty
          split at hq <;> try cases hq
          rename_i hi
          obtain ⟨x, hx, hv⟩ := evs_one hS hvs
          have e1 : args = #[x] := by apply Array.ext'; simpa using hx
          have e2 : tys = #[t] := by apply Array.ext'; simpa using hty
          subst e1; subst e2
          generalize he : a.eval x = r at hv
          obtain ⟨et, hut, hT⟩ := elemOfS_some hP hi
          cases hv
          exact ⟨rfl, .int .i64 0, by simp [execOp, resolve, invoke, builtin, Builtin.cap_, run_underlying hut, goInt, he], .t _ _ _ (.i _ _)⟩
      case min =>
        simp only [qBuiltin] at hq
        split at hq <;> try cases hq
        obtain ⟨x, y, hx, hv, hv2⟩ := evs_two hS hvs
        have e1 : args = #[x, y] := by apply Array.ext'; simpa using hx
        subst e1
        generalize he : a.eval x = r at hv
        generalize he2 : a.eval y = r2 at hv2
        cases hv with
        | t _ _ _ hr =>
          cases hr
          cases hv2 with
          | t _ _ _ hr =>
            cases hr
            exact ⟨rfl, _, by simp [execOp, resolve, invoke, builtin, run_min_int2, he, he2], .t _ _ _ (.i _ _)⟩
      case max =>
        simp only [qBuiltin] at hq
        split at hq <;> try cases hq
        obtain ⟨x, y, hx, hv, hv2⟩ := evs_two hS hvs
        have e1 : args = #[x, y] := by apply Array.ext'; simpa using hx
        subst e1
        generalize he : a.eval x = r at hv
        generalize he2 : a.eval y = r2 at hv2
        cases hv with
        | t _ _ _ hr =>
          cases hr
          cases hv2 with
          | t _ _ _ hr =>
            cases hr
            exact ⟨rfl, _, by simp [execOp, resolve, invoke, builtin, run_max_int2, he, he2], .t _ _ _ (.i _ _)⟩
end
end Go.Proofs.YtgkmhmhbepfiaaaDoor.Pm
set_option linter.all false
namespace Go.Proofs.YtgkmhmhbepfiaaaDoor.Pm
open Go Go.RowKit
section
variable {w w' : World} {c : Ct} {m m' : Mp} {h h' : H} {B : Nat}
theorem BlkOK.keep {id : Nat} {b : Blk} (hb : BlkOK m B h w id b) (he : Ext m h w m' h' w') (hφ : m'.φ id = m.φ id) (hψ : m'.ψ id = m.ψ id)
    (hst : ∀ g, placeB m id b = some g → ¬ m'.st g ∧ w'.heap[g]? = w.heap[g]?) : BlkOK m' B h' w' id b := by
  cases b with
  | var cs =>
    obtain ⟨h1, h2, rcs, t, hh, hz, hr⟩ := hb
    obtain ⟨h3, h4⟩ := hst _ rfl
    exact ⟨by rw [hφ]; exact h1, by rw [hφ]; exact h3, rcs, t, by rw [hφ, h4]; exact hh, hz, fun j v x hv hx => (hr j v x hv hx).mono he⟩
  | row ver z es l =>
    obtain ⟨h1, h2, h3, h4⟩ := hb
    refine ⟨by rw [hψ]; exact h1, h2, h3, fun h0 => ?_⟩
    rw [hψ] at h0
    obtain ⟨h5, h6, rcs, t, hh, hz, hr⟩ := h4 h0
    obtain ⟨h7, h8⟩ := hst (m.ψ id).1 (by simp [placeB, h0])
    refine ⟨by rw [hψ]; exact h5, by rw [hψ]; exact h7, rcs, t, by rw [hψ, h8]; exact hh, by rw [hψ]; exact hz, fun i j e x hi hj => ?_⟩
    obtain ⟨v, hv, hrep⟩ := hr i j e x hi hj
    exact ⟨v, hv, hrep.mono (fun b hb => ⟨he.st b hb.1, hb.2⟩) (fun b hb => he.heap b hb.1)⟩
  | gone => trivial
theorem Mem.placed (hM : Mem c m h w) {id g : Nat} {b : Blk} (hb : h id = some b) (hp : placeB m id b = some g) : g < w.heap.size ∧ c.B ≤ g ∧ ¬ m.st g := by
  have hk := hM.blk _ _ hb
  cases b with
  | var cs =>
    simp only [placeB, Option.some.injEq] at hp
    subst hp
    obtain ⟨h1, h2, rcs, t, hh, _⟩ := hk
    exact ⟨(Array.getElem?_eq_some_iff.1 hh).1, h1, h2⟩
  | row ver z es l =>
    simp only [placeB] at hp
    split at hp
    · rename_i h0
      simp only [Option.some.injEq] at hp
      subst hp
      obtain ⟨h1, h2, rcs, t, hh, _⟩ := hk.2.2.2 h0
      exact ⟨(Array.getElem?_eq_some_iff.1 hh).1, h1, h2⟩
    · cases hp
  | gone => cases hp
theorem Mem.place_lt (hM : Mem c m h w) {id g : Nat} (hp : place m h id = some g) : g < w.heap.size ∧ c.B ≤ g ∧ ¬ m.st g := by
  unfold place at hp
  split at hp
  · rename_i b hb; exact hM.placed hb hp
  · cases hp
theorem Mem.grow (hM : Mem c m h w) (hb : Below w.heap.size w w') : Ext m h w m h w' ∧ Mem c m h w' := by
  have he : Ext m h w m h w' := ⟨fun _ h => h, fun _ _ => rfl, fun _ v' z es l _ hh => ⟨v', z, es, l, hh, Nat.le_refl _⟩, fun _ _ _ es l _ _ hr => ⟨⟨es, l, hr⟩, rfl⟩, fun _ h => h, fun b hs => hb.block b (hM.stlt b hs)⟩
  refine ⟨he, ⟨?_, he.kept hM.kept, fun id b hid => ?_, hM.sep, fun b hs => Nat.lt_of_lt_of_le (hM.stlt b hs) hb.size, hM.stin, hM.softE he, fun b h => ⟨Nat.lt_of_lt_of_le (hM.res b h).1 hb.size, (hM.res b h).2.1, (hM.res b h).2.2.1, (hb.block b (hM.res b h).1).trans (hM.res b h).2.2.2⟩⟩⟩
  · exact hM.below.trans (hb.mono hM.bsize)
  · refine (hM.blk id b hid).keep he rfl rfl fun g hg => ?_
    obtain ⟨h1, h2, h3⟩ := hM.placed hid hg
    exact ⟨h3, hb.block g h1⟩
theorem Sat.of_mem {tm : Tm} {a : Act} (hS : Sat c m h tm a w) (he : Ext m h w m' h' w') (hM : Mem c m' h' w') : Sat c m' h' tm a w' :=
  ⟨hM, hS.defers, hS.size, fun t v ht => ⟨(hS.tmps t v ht).1, (hS.tmps t v ht).2.mono he⟩⟩
theorem Mem.addSt (hM : Mem c m h w) (p : Nat → Prop) (hp : ∀ b, p b → b < w.heap.size ∧ c.B ≤ b ∧ (∀ i, place m h i ≠ some b) ∧ softB w b ∧ ¬ c.R b) :
    Ext m h w { m with st := fun b => m.st b ∨ p b } h w ∧ Mem c { m with st := fun b => m.st b ∨ p b } h w := by
  have he : Ext m h w { m with st := fun b => m.st b ∨ p b } h w := ⟨fun _ h => h, fun _ _ => rfl, fun _ v' z es l _ hh => ⟨v', z, es, l, hh, Nat.le_refl _⟩, fun _ _ _ es l _ _ hr => ⟨⟨es, l, hr⟩, rfl⟩, fun _ h => .inl h, fun b hs => rfl⟩
  refine ⟨he, ⟨hM.below, he.kept hM.kept, fun id b hid => ?_, hM.sep, fun b hs => ?_, fun b hs => ?_, fun b hs hB => ?_, fun b h => ⟨(hM.res b h).1, fun hs => hs.elim (hM.res b h).2.1 (fun hs => (hp b hs).2.2.2.2 h), (hM.res b h).2.2.1, (hM.res b h).2.2.2⟩⟩⟩
  · refine (hM.blk id b hid).keep he rfl rfl fun g hg => ⟨fun hs => ?_, rfl⟩
    rcases hs with hs | hs
    · exact (hM.placed hid hg).2.2 hs
    · exact (hp g hs).2.2.1 id (by unfold place; rw [hid]; exact hg)
  · rcases hs with hs | hs
    · exact hM.stlt b hs
    · exact (hp b hs).1
  · rcases hs with hs | hs
    · exact hM.stin b hs
    · exact .inr (hp b hs).2.1
  · rcases hs with hs | hs
    · exact hM.soft b hs hB
    · exact (hp b hs).2.2.2.1
def setH (h : H) (id : Nat) (b : Blk) : H := fun i => if i = id then some b else h i
def setF {α : Type} (f : Nat → α) (id : Nat) (x : α) : Nat → α := fun i => if i = id then x else f i
theorem Mem.add (hM : Mem c m h w) {n : Nat} (hn : h n = none) (b : Blk) (f : Nat) (r : Nat × Nat)
    (hf : ∀ g, placeB { m with φ := setF m.φ n f, ψ := setF m.ψ n r } n b = some g → c.B ≤ g ∧ ¬ m.st g ∧ (∀ i, place m h i ≠ some g) ∧ ¬ c.R g)
    (hb : Ext m h w { m with φ := setF m.φ n f, ψ := setF m.ψ n r } (setH h n b) w → BlkOK { m with φ := setF m.φ n f, ψ := setF m.ψ n r } c.B (setH h n b) w n b) :
    Ext m h w { m with φ := setF m.φ n f, ψ := setF m.ψ n r } (setH h n b) w ∧ Mem c { m with φ := setF m.φ n f, ψ := setF m.ψ n r } (setH h n b) w := by
  have hne : ∀ id, (h id).isSome = true → id ≠ n := fun id hid e => by subst e; rw [hn] at hid; cases hid
  have he : Ext m h w { m with φ := setF m.φ n f, ψ := setF m.ψ n r } (setH h n b) w :=
    ⟨fun id hid => by simp [setH, hne id hid, hid], fun id hid => by simp [setF, hne id hid],
     fun id v' z es l hid hh => ⟨v', z, es, l, by simpa [setH, hne id hid] using hh, Nat.le_refl _⟩,
     fun id ver z es l hid _ hr => by
      refine ⟨⟨es, l, ?_⟩, by simp [setF, hne id hid]⟩
      simpa [rowOf, setH, hne id hid] using hr, fun _ h => h, fun b hs => rfl⟩
  have hpl : ∀ i, i ≠ n → place { m with φ := setF m.φ n f, ψ := setF m.ψ n r } (setH h n b) i = place m h i := fun i hi => by
    unfold place
    simp only [setH, if_neg hi]
    cases h i with
    | none => rfl
    | some b' => cases b' <;> simp [placeB, setF, hi]
  have hpn : place { m with φ := setF m.φ n f, ψ := setF m.ψ n r } (setH h n b) n = placeB { m with φ := setF m.φ n f, ψ := setF m.ψ n r } n b := by simp [place, setH]
  refine ⟨he, ⟨hM.below, he.kept hM.kept, fun id b' hid => ?_, fun i j g hi hj => ?_, hM.stlt, hM.stin, hM.soft, fun b' h => ⟨(hM.res b' h).1, (hM.res b' h).2.1, fun i hi => ?_, (hM.res b' h).2.2.2⟩⟩⟩
  · by_cases hin : id = n
    · subst hin
      simp [setH] at hid
      subst hid
      exact hb he
    · have hid' : h id = some b' := by simpa [setH, hin] using hid
      exact (hM.blk id b' hid').keep he (by simp [setF, hin]) (by simp [setF, hin]) fun g hg => ⟨(hM.placed hid' hg).2.2, rfl⟩
  · by_cases hin : i = n <;> by_cases hjn : j = n
    · rw [hin, hjn]
    · subst hin; rw [hpn] at hi; rw [hpl j hjn] at hj; exact absurd hj ((hf g hi).2.2.1 j)
    · subst hjn; rw [hpn] at hj; rw [hpl i hin] at hi; exact absurd hi ((hf g hj).2.2.1 i)
    · rw [hpl i hin] at hi; rw [hpl j hjn] at hj; exact hM.sep i j g hi hj
  · by_cases hin : i = n
    · subst hin; rw [hpn] at hi; exact (hf _ hi).2.2.2 h
    · rw [hpl i hin] at hi; exact (hM.res b' h).2.2.1 i hi
theorem Mem.goes (hM : Mem c m h w) {id ver z : Nat} {es : List (List T)} {l : Bool} (hid : h id = some (.row ver z es l)) :
    Ext m h w { m with st := fun b => m.st b ∨ (0 < (m.ψ id).2 ∧ b = (m.ψ id).1) } (setH h id .gone) w ∧ Mem c { m with st := fun b => m.st b ∨ (0 < (m.ψ id).2 ∧ b = (m.ψ id).1) } (setH h id .gone) w := by
  have he : Ext m h w { m with st := fun b => m.st b ∨ (0 < (m.ψ id).2 ∧ b = (m.ψ id).1) } (setH h id .gone) w := by
    refine ⟨fun i hi => ?_, fun _ _ => rfl, fun i v' z es l hi hh => ?_, fun i ver z es l hi _ hr => ?_, fun _ h => .inl h, fun b hs => rfl⟩
    · by_cases e : i = id <;> simp [setH, e, hi]
    · by_cases e : i = id
      · subst e; simp [setH] at hh
      · exact ⟨v', z, es, l, by simpa [setH, e] using hh, Nat.le_refl _⟩
    · by_cases e : i = id
      · subst e; simp [rowOf, setH] at hr
      · exact ⟨⟨es, l, by simpa [rowOf, setH, e] using hr⟩, rfl⟩
  have hpl : ∀ i, i ≠ id → place { m with st := fun b => m.st b ∨ (0 < (m.ψ id).2 ∧ b = (m.ψ id).1) } (setH h id .gone) i = place m h i := fun i hi => by
    unfold place
    simp only [setH, if_neg hi]
    cases h i with
    | none => rfl
    | some b' => cases b' <;> rfl
  have hpi : place { m with st := fun b => m.st b ∨ (0 < (m.ψ id).2 ∧ b = (m.ψ id).1) } (setH h id .gone) id = none := by simp [place, setH, placeB]
  have hown : 0 < (m.ψ id).2 → place m h id = some (m.ψ id).1 := fun h0 => by simp [place, hid, placeB, h0]
  refine ⟨he, ⟨hM.below, he.kept hM.kept, fun i b hi => ?_, fun i j g hi hj => ?_, fun b hs => ?_, fun b hs => ?_, fun b hs hB => ?_, fun b h => ⟨(hM.res b h).1, fun hs => hs.elim (hM.res b h).2.1 (fun hs => (hM.res b h).2.2.1 id (by rw [hs.2]; exact hown hs.1)), fun i hi => ?_, (hM.res b h).2.2.2⟩⟩⟩
  · by_cases e : i = id
    · subst e; simp [setH] at hi; subst hi; trivial
    · have hi' : h i = some b := by simpa [setH, e] using hi
      refine (hM.blk i b hi').keep he rfl rfl fun g hg => ⟨fun hs => ?_, rfl⟩
      rcases hs with hs | ⟨h0, rfl⟩
      · exact (hM.placed hi' hg).2.2 hs
      · exact e (hM.sep i id _ (by unfold place; rw [hi']; exact hg) (hown h0))
  · by_cases e : i = id
    · subst e; rw [hpi] at hi; cases hi
    · by_cases e' : j = id
      · subst e'; rw [hpi] at hj; cases hj
      · rw [hpl i e] at hi; rw [hpl j e'] at hj; exact hM.sep i j g hi hj
  · rcases hs with hs | ⟨h0, rfl⟩
    · exact hM.stlt b hs
    · exact (hM.place_lt (hown h0)).1
  · rcases hs with hs | ⟨h0, rfl⟩
    · exact hM.stin b hs
    · exact .inr (hM.place_lt (hown h0)).2.1
  · rcases hs with hs | ⟨h0, rfl⟩
    · exact hM.soft b hs hB
    · obtain ⟨_, _, _, h9⟩ := hM.blk id _ hid
      obtain ⟨_, _, _, _, h10, _⟩ := h9 h0
      exact softB.row h10
  · by_cases e : i = id
    · subst e; rw [hpi] at hi; cases hi
    · rw [hpl i e] at hi; exact (hM.res b h).2.2.1 i hi
theorem Ext.trans {m'' : Mp} {h'' : H} {w'' : World} (h1 : Ext m h w m' h' w') (h2 : Ext m' h' w' m'' h'' w'') : Ext m h w m'' h'' w'' :=
  ⟨fun i hi => h2.known i (h1.known i hi), fun i hi => (h2.φ i (h1.known i hi)).trans (h1.φ i hi),
   fun i v' z es l hi hh => by
    obtain ⟨v0, z0, es0, l0, h0, hle⟩ := h2.ver i v' z es l (h1.known i hi) hh
    obtain ⟨v1, z1, es1, l1, h3, hle'⟩ := h1.ver i v0 z0 es0 l0 hi h0
    exact ⟨v1, z1, es1, l1, h3, Nat.le_trans hle' hle⟩,
   fun i ver z es l hi hv hr => by
    obtain ⟨⟨es0, l0, h0⟩, e⟩ := h2.ψ i ver z es l (h1.known i hi) (h1.verOK hi hv) hr
    obtain ⟨h3, e'⟩ := h1.ψ i ver z es0 l0 hi hv h0
    exact ⟨h3, e.trans e'⟩,
   fun b hb => h2.st b (h1.st b hb), fun b hb => (h2.heap b (h1.st b hb)).trans (h1.heap b hb)⟩
end
end Go.Proofs.YtgkmhmhbepfiaaaDoor.Pm
set_option linter.all false
namespace Go.Proofs.YtgkmhmhbepfiaaaDoor.Pm
open Go Go.RowKit
section
variable {P : Program} {w w' : World} {c : Ct} {m m' : Mp} {h h' h1 : H} {ti : Nat → Option TI} {tm : Tm} {a : Act}
theorem row_rep (hM : Mem c m h w) {id ver off len z : Nat} {es : List (List T)} {l : Bool} {rv : Value} (hv : VR m c.B h w rv (.row id ver off len)) (hr : rowOf h id ver = some (z, es, l)) (hl : off + len ≤ es.length) :
    Rep w (fun b => (m.st b ∨ (0 < (m.ψ id).2 ∧ b = (m.ψ id).1)) ∧ (l = true → c.B ≤ b)) rv (.sl ((es.drop off).take len)) := by
  cases hv with
  | row _ _ _ _ k A hid hver hk hrow =>
    obtain ⟨h4, h5⟩ := hrow _ _ _ hr
    obtain ⟨h6, h7, h8, h9⟩ := hM.blk _ _ (rowOf_some hr)
    have get : ∀ (i : Nat) (e : List T), ((es.drop off).take len)[i]? = some e → i < len ∧ es[off + i]? = some e := fun i e he => by
      have hi : i < len := by have := (List.getElem?_eq_some_iff.1 he).1; simp at this; omega
      rw [List.getElem?_take_of_lt hi, List.getElem?_drop] at he
      exact ⟨hi, he⟩
    by_cases h0 : 0 < len
    · obtain ⟨h10, h11, rcs, t, hh, hsz, hcell⟩ := h9 (by omega)
      refine .sl A len k _ z (fun i j => (rcs[(off + i) * z + j]?).getD undef) (by simp; omega) hk (by omega) (fun e => by rcases Nat.eq_zero_or_pos k with h | h; exact h; rw [h5 h] at e; cases e) (fun i e he => h8 _ _ (get i e he).2) (fun _ => ?_) (fun i j e x he hx => ?_)
      · refine ⟨_, h5 (by omega), by rw [block_add]; exact ⟨.inr ⟨by omega, rfl⟩, fun _ => h10⟩, fun i j hi hj => ?_⟩
        have hin : (off + i) * z + j < rcs.size := by
          have : (off + i + 1) * z ≤ (m.ψ id).2 * z := Nat.mul_le_mul_right _ (by omega)
          rw [Nat.add_mul] at this
          omega
        rw [add_lit, add_lit, cell_lit hh, show 0 + off * z + (i * z + j) = (off + i) * z + j by rw [Nat.add_mul]; omega]
        simp [hin]
      · obtain ⟨v, hv, hrep⟩ := hcell _ _ _ _ (get i e he).2 hx
        simp only [hv, Option.getD_some]
        exact hrep.mono (fun b hb => ⟨.inl hb.1, hb.2⟩) (fun _ _ => rfl)
    · obtain rfl : len = 0 := by omega
      exact .sl A 0 k _ z (fun _ _ => undef) (by simp) hk (by omega) (fun e => by rcases Nat.eq_zero_or_pos k with h | h; exact h; rw [h5 h] at e; cases e) (by simp) (by simp) (by simp)
theorem elems_cells (hM : Mem c m h w) {u : AV} {p : List (List T) × Bool} (hp : elems h u = some p) {rv : Value} (hv : VR m c.B h w rv u) (z : Nat) (hz : ∀ e ∈ p.1, e.length = z) (h0 : 0 < z) :
    ∃ A k, rv = .slice A p.1.length k ∧ p.1.length ≤ room ∧ ∃ news : List Value, news.length = p.1.length * z ∧ (0 < p.1.length → ∃ ad, A = some ad ∧ ∀ (j : Nat) (v : Value), news[j]? = some v → w.cell? (ad.add j) = some v) ∧
      ∀ (i j : Nat) (e : List T) (x : T), p.1[i]? = some e → e[j]? = some x → ∃ v, news[i * z + j]? = some v ∧ Rep w (m.ok c.B p.2) v x := by
  -- a reading is enough
  have of_rep : ∀ (B : Nat → Prop) (rv : Value) (es : List (List T)), (∀ e ∈ es, e.length = z) → Rep w B rv (.sl es) → ∃ A k, rv = .slice A es.length k ∧ es.length ≤ room ∧ ∃ vals : Nat → Nat → Value, 
      (0 < es.length → ∃ ad, A = some ad ∧ ∀ i j, i < es.length → j < z → w.cell? (ad.add (i * z + j)) = some (vals i j)) := by
    intro B rv es hz hr
    cases hr with
    | sl A n k _ z' vals hn hc hm hz0 hz' hA hvv =>
      subst hn
      refine ⟨A, k, rfl, hm, vals, fun hpos => ?_⟩
      obtain ⟨ad, e1, _, hcell⟩ := hA hpos
      have hzz : z' = z := by
        obtain ⟨e, he⟩ := list_get hpos
        rw [← hz' 0 e he]
        exact hz e (List.mem_of_getElem? he)
      subst hzz
      exact ⟨ad, e1, hcell⟩
  have flat : ∀ (n : Nat) (vals : Nat → Nat → Value), ∃ news : List Value, news.length = n * z ∧ (∀ (k : Nat) (v : Value), news[k]? = some v → v = vals (k / z) (k % z) ∧ k < n * z) ∧ ∀ i j, i < n → j < z → news[i * z + j]? = some (vals i j) := by
    intro n vals
    refine ⟨(List.range (n * z)).map fun k => vals (k / z) (k % z), by simp, fun k v hk => ?_, fun i j hi hj => ?_⟩
    · rw [List.getElem?_map] at hk
      simp only [Option.map_eq_some_iff] at hk
      obtain ⟨k', hk', rfl⟩ := hk
      have hlt := (List.getElem?_eq_some_iff.1 hk').1
      simp at hlt
      rw [List.getElem?_range hlt] at hk'
      simp at hk'
      subst hk'
      exact ⟨rfl, hlt⟩
    · have hlt : i * z + j < n * z := by
        have : (i + 1) * z ≤ n * z := Nat.mul_le_mul_right _ hi
        rw [Nat.add_mul] at this
        omega
      rw [List.getElem?_map, List.getElem?_range hlt]
      simp only [Option.map_some, Option.some.injEq]
      rw [show (i * z + j) / z = i by rw [Nat.mul_comm, Nat.mul_add_div h0, Nat.div_eq_of_lt hj, Nat.add_zero], show (i * z + j) % z = j by rw [Nat.mul_comm, Nat.mul_add_mod, Nat.mod_eq_of_lt hj]]
  have decomp : ∀ k, k / z * z + k % z = k := fun k => by rw [Nat.mul_comm]; exact Nat.div_add_mod k z
  have main : ∀ (es : List (List T)) (l : Bool) (A : Option Addr) (k : Nat) (vals : Nat → Nat → Value), (∀ e ∈ es, e.length = z) → es.length ≤ room →
      (0 < es.length → ∃ ad, A = some ad ∧ ∀ i j, i < es.length → j < z → w.cell? (ad.add (i * z + j)) = some (vals i j)) →
      (∀ (i j : Nat) (e : List T) (x : T), es[i]? = some e → e[j]? = some x → Rep w (m.ok c.B l) (vals i j) x) →
      ∃ A' k', Value.slice A es.length k = .slice A' es.length k' ∧ es.length ≤ room ∧ ∃ news : List Value, news.length = es.length * z ∧ (0 < es.length → ∃ ad, A' = some ad ∧ ∀ (j : Nat) (v : Value), news[j]? = some v → w.cell? (ad.add j) = some v) ∧
        ∀ (i j : Nat) (e : List T) (x : T), es[i]? = some e → e[j]? = some x → ∃ v, news[i * z + j]? = some v ∧ Rep w (m.ok c.B l) v x := by
    intro es l A k vals hz hroom hA hv
    obtain ⟨news, hl, hk, hg⟩ := flat es.length vals
    refine ⟨A, k, rfl, hroom, news, hl, fun hpos => ?_, fun i j e x he hx => ?_⟩
    · obtain ⟨ad, e1, hcell⟩ := hA hpos
      refine ⟨ad, e1, fun j v hj => ?_⟩
      obtain ⟨rfl, hlt⟩ := hk j v hj
      have := hcell (j / z) (j % z) (Nat.div_lt_of_lt_mul (by rw [Nat.mul_comm]; exact hlt)) (Nat.mod_lt _ h0)
      rwa [decomp] at this
    · have hi := (List.getElem?_eq_some_iff.1 he).1
      have hj := (List.getElem?_eq_some_iff.1 hx).1
      rw [hz e (List.mem_of_getElem? he)] at hj
      exact ⟨vals i j, hg i j hi hj, hv i j e x he hx⟩
  cases hv <;> simp only [elems, reduceCtorEq] at hp
  case t x l hr =>
    cases hr <;> simp only [Option.some.injEq, reduceCtorEq] at hp
    case sl A n k es z' vals hn hc hm hz0 hz' hA hvv =>
      subst hp
      subst hn
      refine main es l A k vals hz hm (fun hpos => ?_) hvv
      obtain ⟨ad, e1, _, hcell⟩ := hA hpos
      have hzz : z' = z := by
        obtain ⟨e, he⟩ := list_get hpos
        rw [← hz' 0 e he]
        exact hz e (List.mem_of_getElem? he)
      subst hzz
      exact ⟨ad, e1, hcell⟩
    case ne a k => subst hp; exact main [] l (some a) k (fun _ _ => undef) (by simp) (by simp) (by simp) (by simp)
  case nl => simp only [Option.some.injEq] at hp; subst hp; exact main [] true none 0 (fun _ _ => undef) (by simp) (by simp) (by simp) (by simp)
  case e0 A => simp only [Option.some.injEq] at hp; subst hp; exact main [] true A 0 (fun _ _ => undef) (by simp) (by simp) (by simp) (by simp)
  case row id ver off len k A hid hver hk hrow =>
    split at hp <;> try cases hp
    rename_i z' es l hr
    split at hp <;> simp only [Option.some.injEq, reduceCtorEq] at hp
    rename_i hl
    subst hp
    obtain ⟨h4, h5⟩ := hrow _ _ _ hr
    obtain ⟨h6, h7, h8, h9⟩ := hM.blk _ _ (rowOf_some hr)
    have get : ∀ (i : Nat) (e : List T), ((es.drop off).take len)[i]? = some e → i < len ∧ es[off + i]? = some e := fun i e he => by
      have hi : i < len := by have := (List.getElem?_eq_some_iff.1 he).1; simp at this; omega
      rw [List.getElem?_take_of_lt hi, List.getElem?_drop] at he
      exact ⟨hi, he⟩
    have hlen : ((es.drop off).take len).length = len := by simp; omega
    by_cases hpos : 0 < len
    · obtain ⟨h10, h11, rcs, t, hh, hsz, hcell⟩ := h9 (by omega)
      have hzz : z' = z := by
        obtain ⟨e, he⟩ := list_get (l := (es.drop off).take len) (j := 0) (by omega)
        rw [← h8 _ _ (get 0 e he).2]
        exact hz e (List.mem_of_getElem? he)
      subst hzz
      have := main ((es.drop off).take len) l A k (fun i j => (rcs[(off + i) * z' + j]?).getD undef) hz (by omega) (fun _ => ⟨_, h5 (by omega), fun i j hi hj => by
        rw [hlen] at hi
        have hin : (off + i) * z' + j < rcs.size := by
          have : (off + i + 1) * z' ≤ (m.ψ id).2 * z' := Nat.mul_le_mul_right _ (by omega)
          rw [Nat.add_mul] at this
          omega
        rw [add_lit, add_lit, cell_lit hh, show 0 + off * z' + (i * z' + j) = (off + i) * z' + j by rw [Nat.add_mul]; omega]
        simp [hin]⟩) (fun i j e x he hx => by
        obtain ⟨v, hv, hrep⟩ := hcell _ _ _ _ (get i e he).2 hx
        simp only [hv, Option.getD_some]
        exact hrep)
      rw [hlen] at this ⊢
      exact this
    · obtain rfl : len = 0 := by omega
      have := main [] l A k (fun _ _ => undef) (by simp) (by simp) (by simp) (by simp)
      simpa using this
  case vs id off len z' k A hid hk hA =>
    split at hp <;> try cases hp
    rename_i cs hcs
    split at hp <;> try cases hp
    rename_i xs l hxs
    split at hp <;> simp only [Option.some.injEq, reduceCtorEq] at hp
    rename_i hl
    obtain ⟨hl, hroom⟩ := hl
    subst hp
    have hchunk : ∀ (n : Nat) (xs : List T), xs.length = n * z' → (chunk z' n xs).length = n ∧ ∀ (i j : Nat) (e : List T) (x : T), (chunk z' n xs)[i]? = some e → e[j]? = some x → e.length = z' ∧ xs[i * z' + j]? = some x := by
      intro n
      induction n with
      | zero => intro xs _; simp [chunk]
      | succ n ih =>
        intro xs hx
        have hx' : (xs.drop z').length = n * z' := by simp [hx, Nat.add_mul]
        obtain ⟨h1, h2⟩ := ih (xs.drop z') hx'
        refine ⟨by simp [chunk, h1], fun i j e x he hj => ?_⟩
        cases i with
        | zero =>
          simp [chunk] at he
          subst he
          have : (xs.take z').length = z' := by simp [hx, Nat.add_mul]
          have hjl := (List.getElem?_eq_some_iff.1 hj).1
          refine ⟨this, ?_⟩
          rw [List.getElem?_take_of_lt (by omega)] at hj
          simpa using hj
        | succ i =>
          simp [chunk] at he
          obtain ⟨h3, h4⟩ := h2 i j e x he hj
          refine ⟨h3, ?_⟩
          rw [List.getElem?_drop] at h4
          rw [← h4]
          congr 1
          rw [Nat.add_mul]
          omega
    obtain ⟨hpl, hpg⟩ := plains_get hxs
    have hxl : xs.length = len * z' := by
      simp only [List.length_take, List.length_drop] at hpl
      omega
    obtain ⟨hcl, hcg⟩ := hchunk len xs hxl
    obtain ⟨rcs, ty, hh, hsz, hvr⟩ := hM.var_cells (Sub.var (h := h) (fun _ _ h => h) hcs)
    by_cases hpos : 0 < len
    · have hzz : z' = z := by
        obtain ⟨e, he⟩ := list_get (l := chunk z' len xs) (j := 0) (by omega)
        have := hz e (List.mem_of_getElem? he)
        obtain ⟨x, hx⟩ := list_get (l := e) (j := 0) (by omega)
        rw [← (hcg 0 0 e x he hx).1]
        exact this
      subst hzz
      have := main (chunk z' len xs) l A k (fun i j => (rcs[off + (i * z' + j)]?).getD undef) hz (by omega) (fun _ => ⟨_, hA (by omega), fun i j hi hj => by
        rw [hcl] at hi
        have hin : off + (i * z' + j) < rcs.size := by
          have : (i + 1) * z' ≤ len * z' := Nat.mul_le_mul_right _ (by omega)
          rw [Nat.add_mul] at this
          omega
        rw [add_lit, cell_lit hh]
        simp [hin]⟩) (fun i j e x he hx => by
        obtain ⟨h2, h3⟩ := hcg i j e x he hx
        have hj := (List.getElem?_eq_some_iff.1 hx).1
        have hi := (List.getElem?_eq_some_iff.1 he).1
        rw [hcl] at hi
        have hin : i * z' + j < len * z' := by
          have : (i + 1) * z' ≤ len * z' := Nat.mul_le_mul_right _ (by omega)
          rw [Nat.add_mul] at this
          omega
        obtain ⟨u, hu⟩ := list_get (l := (cs.drop off).take (len * z')) (j := i * z' + j) (by simp; omega)
        obtain ⟨q', hq1, hq2, hq3⟩ := hpg _ u hu
        rw [h3] at hq2
        simp only [Option.some.injEq] at hq2
        have hcu : cs[off + (i * z' + j)]? = some u := by
          rw [List.getElem?_take_of_lt hin, List.getElem?_drop] at hu
          exact hu
        have hlt : off + (i * z' + j) < rcs.size := by rw [hsz]; exact (List.getElem?_eq_some_iff.1 hcu).1
        have hv0 : rcs[off + (i * z' + j)]? = some rcs[off + (i * z' + j)] := by simp [hlt]
        rw [hv0]
        simp only [Option.getD_some]
        rw [hq2]
        exact ok_mono (l := q'.2) (l' := l) hq3 (plain_rep hq1 (hvr _ _ _ hv0 hcu)))
      rw [hcl] at this ⊢
      exact this
    · obtain rfl : len = 0 := by omega
      have := main [] l A k (fun _ _ => undef) (by simp) (by simp) (by simp) (by simp)
      simpa [chunk] using this
end
end Go.Proofs.YtgkmhmhbepfiaaaDoor.Pm
