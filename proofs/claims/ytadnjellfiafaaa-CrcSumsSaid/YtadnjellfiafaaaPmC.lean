/- The abstract machine, third part: from the loaded code to the code that is walked; a drawn statement is let in where its order makes no difference to the walk. No law of Go's is stated here. -/
import Derived.Test.YtadnjellfiafaaaPmB
set_option linter.all false
namespace Go.Proofs.Ytadnjellfiafaaa.Pm
open Go

structure Hint where
  ad : List (Nat × Nat)
  kp : List Bool
  ls : List Nat

def dstAt (ops : List Oper) (j : Nat) : Option Nat := (ops[j]?).bind (·.dst)
def dstIn (n : Nat) (o : Oper) : Bool :=
  match o.dst with
  | some d => decide (d < n)
  | none => true
def trI (n : Nat) (ops : List Oper) (o : Oper) : Option I :=
  match dstIn n o with
  | true => (match o.guard with
    | none => some ⟨o.dst, o.op, none⟩
    | some (j, w) => match dstAt ops j with
      | some t => some ⟨o.dst, o.op, some (t, w)⟩
      | none => none)
  | false => none
def trIs (n : Nat) (ops : List Oper) : List Oper → Option (List I)
  | [] => some []
  | o :: r => match trI n ops o, trIs n ops r with
    | some i, some is => some (i :: is)
    | _, _ => none

/-- Of each operation all that it waits for, those at hand first. -/
def befs : List Oper → List (List Nat) → List (List Nat)
  | [], acc => acc
  | o :: r, acc =>
    let ds := (o.after.toList.filter (Region.binds .any)).map (·.on)
    befs r (acc ++ [ds ++ ds.flatMap fun d => acc.getD d []])
/-- What an operation may take over: a row that grows in place. 'fl': the functions that take one. -/
def grows (fl : List Nat) (ops : List Oper) (o : Oper) : Bool :=
  match o.op with
  | .call { callee := .builtin .append, args, .. } => match args.toList with
    | .tmp a :: _ => !(ops.any fun p => p.dst == some a && (match p.op with | .buildSlice _ 0 _ => true | _ => false)) || true
    | _ => false
  | .call { callee := .value (.func f), .. } => fl.contains f
  | .buildSlice .. => true
  | _ => false
def looks (ops : List Oper) (o : Oper) : List Nat :=
  (o.op.operands.toList.filterMap fun | .tmp t => some t | _ => none) ++
  (match o.guard with
   | some (g, _) => (dstAt ops g).toList
   | none => [])
def apart (ops : List Oper) (a b : Oper) : Bool :=
  (match a.dst with
   | some d => !(looks ops b).contains d && b.dst != some d
   | none => true) &&
  (match b.dst with
   | some d => !(looks ops a).contains d
   | none => true)
def isSel : Op → Bool
  | .select .. => true
  | _ => false
def drawAt (ops : List Oper) (bs : List (List Nat)) (n j : Nat) (o : Oper) : Bool :=
  !isSel o.op &&
  ((o.after.toList.filter (Region.binds .any)).all fun e => decide (e.on < j)) &&
  (match o.guard with
   | some (g, _) => (bs.getD j []).contains g
   | none => true) &&
  (List.range n).all fun i => if i < j then
    (bs.getD j []).contains i || (match ops[i]? with
      | some p => apart ops p o && !isSt o.op && !isSt p.op
      | none => false) else true
def drawOK (ops : List Oper) : Bool :=
  let bs := befs ops []
  (List.range ops.length).all fun j => match ops[j]? with
    | some o => drawAt ops bs ops.length j o
    | none => false
def trD (nt : Nat) (fl : List Nat) (ops : List Oper) (bs : List (List Nat)) (n : Nat) : Nat → List Oper → Option (List D)
  | _, [] => some []
  | j, o :: r => match trI nt ops o, trD nt fl ops bs n (j + 1) r with
    | some i, some is =>
      some (⟨i, grows fl ops o, (List.range j).filter (fun k => !(bs.getD j []).contains k), (List.range n).any fun k => decide (j < k) && !(bs.getD k []).contains j && (match ops[k]? with | some p => grows fl ops p | none => false)⟩ :: is)
    | _, _ => none

def tr (nt : Nat) (fl : List Nat) : Code → List Hint → Option (C × List Hint)
  | .skip, hs => some (.skip, hs)
  | .region _ ops false, hs => (trIs nt ops.toList ops.toList).map fun l => (.reg l, hs)
  | .region _ ops true, hs => if False ∧ drawOK ops.toList = true then (trD nt fl ops.toList (befs ops.toList []) ops.size 0 ops.toList).map fun l => (.draw l, hs) else none
  | .seq a b, hs => match tr nt fl a hs with
    | some (a', hs) => match tr nt fl b hs with
      | some (b', hs) => some (.seq a' b', hs)
      | none => none
    | none => none
  | .cond c a b, hs => match tr nt fl a hs with
    | some (a', hs) => match tr nt fl b hs with
      | some (b', hs) => some (.cond c a' b', hs)
      | none => none
    | none => none
  | .block id c, hs => match tr nt fl c hs with
    | some (c', hs) => some (.block id c', hs)
    | none => none
  | .loop c, h :: hs => match tr nt fl c hs with
    | some (c', hs) => some (.loop h.ad h.kp c', hs)
    | none => none
  | .exit id, hs => some (.exit id, hs)
  | .ret, hs => some (.ret, hs)
  | .label _, hs => some (.label, hs)
  | .goto l, hs => some (.goto l, hs)
  | _, _ => none
end Go.Proofs.Ytadnjellfiafaaa.Pm
