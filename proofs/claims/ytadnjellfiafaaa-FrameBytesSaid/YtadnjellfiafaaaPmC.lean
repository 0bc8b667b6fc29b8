/- The abstract machine, third part: from the loaded code to the code that is walked; a drawn statement is let in where its order makes no difference to the walk. No law of Go's is stated here. -/
import Derived.Test.YtadnjellfiafaaaPmB
set_option linter.all false
namespace Go.Proofs.Ytadnjellfiafaaa.Pm
open Go

structure Hint where
  ad : List (Nat × Nat)
  kp : List Nat
  ls : List Nat

def dstAt (ops : List Oper) (j : Nat) : Option Nat := (ops[j]?).bind (·.dst)
def dstIn (n : Nat) (o : Oper) : Bool :=
  match o.dst with
  | some d => decide (d < n)
  | none => true
def trI (n : Nat) (ops : List Oper) (o : Oper) : Option I :=
  match dstIn n o with
  | true => (match o.guard with
    | none => some ⟨o.dst, o.op, none⟩
    | some (j, w) => match dstAt ops j with
      | some t => some ⟨o.dst, o.op, some (t, w)⟩
      | none => none)
  | false => none
def trIs (n : Nat) (ops : List Oper) : List Oper → Option (List I)
  | [] => some []
  | o :: r => match trI n ops o, trIs n ops r with
    | some i, some is => some (i :: is)
    | _, _ => none

/-- Of each operation all that it waits for, those at hand first. -/
def befs : List Oper → List (List Nat) → List (List Nat)
  | [], acc => acc
  | o :: r, acc =>
    let ds := (o.after.toList.filter (Region.binds .any)).map (·.on)
    befs r (acc ++ [ds ++ ds.flatMap fun d => acc.getD d []])
def looks (ops : List Oper) (o : Oper) : List Nat :=
  (o.op.operands.toList.filterMap fun | .tmp t => some t | _ => none) ++
  (match o.guard with
   | some (g, _) => (dstAt ops g).toList
   | none => [])
def apart (ops : List Oper) (a b : Oper) : Bool :=
  (match a.dst with
   | some d => !(looks ops b).contains d && b.dst != some d
   | none => true) &&
  (match b.dst with
   | some d => !(looks ops a).contains d
   | none => true)
def isSel : Op → Bool
  | .select .. => true
  | _ => false
def drawAt (ops : List Oper) (bs : List (List Nat)) (n j : Nat) (o : Oper) : Bool :=
  !isSel o.op &&
  ((o.after.toList.filter (Region.binds .any)).all fun e => decide (e.on < j)) &&
  (match o.guard with
   | some (g, _) => (bs.getD j []).contains g
   | none => true) &&
  (List.range n).all fun i => if i < j then
    (bs.getD j []).contains i || (match ops[i]? with
      | some p => apart ops p o
      | none => false) else true
def drawOK (ops : List Oper) : Bool :=
  let bs := befs ops []
  (List.range ops.length).all fun j => match ops[j]? with
    | some o => drawAt ops bs ops.length j o
    | none => false
def trD (nt : Nat) (ops : List Oper) (bs : List (List Nat)) : Nat → List Oper → Option (List D)
  | _, [] => some []
  | j, o :: r => match trI nt ops o, trD nt ops bs (j + 1) r with
    | some i, some is => some (⟨i, (List.range j).filter (fun k => !(bs.getD j []).contains k)⟩ :: is)
    | _, _ => none

/-- What stands behind a label. -/
def restOf (r : Code → List Hint → Option (C × List Hint)) (c : Code) : List Nat → List Hint → Option (List (Nat × C) × List Hint)
  | [], hs => some ([], hs)
  | l :: ls, hs => match findLabel c l with
    | some rest => match r rest hs with
      | some (c', hs) => match restOf r c ls hs with
        | some (gs, hs) => some ((l, c') :: gs, hs)
        | none => none
      | none => none
    | none => none

def tr0 (nt : Nat) (fl : List Nat) : Code → List Hint → Option (C × List Hint)
  | .skip, hs => some (.skip, hs)
  | .region _ ops false, h :: hs => (trIs nt ops.toList ops.toList).map fun l => (.seq (.reg l) (.keep h.kp), hs)
  | .region _ ops true, h :: hs => if drawOK ops.toList = true then (trD nt ops.toList (befs ops.toList []) 0 ops.toList).map fun l => (.seq (.draw l) (.keep h.kp), hs) else none
  | .seq a b, hs => match tr0 nt fl a hs with
    | some (a', hs) => match tr0 nt fl b hs with
      | some (b', hs) => some (.seq a' b', hs)
      | none => none
    | none => none
  | .cond c a b, hs => match tr0 nt fl a hs with
    | some (a', hs) => match tr0 nt fl b hs with
      | some (b', hs) => some (.cond c a' b', hs)
      | none => none
    | none => none
  | .block id c, hs => match tr0 nt fl c hs with
    | some (c', hs) => some (.block id c', hs)
    | none => none
  | .loop c, h :: hs => match tr0 nt fl c hs with
    | some (c', hs) => some (.loop h.ad h.kp c', hs)
    | none => none
  | .exit id, hs => some (.exit id, hs)
  | .ret, hs => some (.ret, hs)
  | .label _, hs => some (.label, hs)
  | .goto l, hs => some (.goto l, hs)
  | _, _ => none
/-- Stretches within which the run jumps stand at the head of a body alone, or behind what stands there. -/
def tr (nt : Nat) (fl : List Nat) : Code → List Hint → Option (C × List Hint)
  | .scope c, h :: hs => match tr0 nt fl c hs with
    | some (c', hs) => match restOf (tr0 nt fl) c h.ls hs with
      | some (gs, hs) => some (.scope h.ad h.kp c' gs, hs)
      | none => none
    | none => none
  | .seq a b, hs => match tr nt fl a hs with
    | some (a', hs) => match tr nt fl b hs with
      | some (b', hs) => some (.seq a' b', hs)
      | none => none
    | none => none
  | c, hs => tr0 nt fl c hs
end Go.Proofs.Ytadnjellfiafaaa.Pm
