/- The abstract machine, twenty-second part: a program's types; loops; numbers as bits. No law of Go's is stated here. -/
import Derived.Test.YtadnjellfiafaaaPmV
set_option linter.all false
namespace Go.Proofs.Ytadnjellfiafaaa.Pm
open Go Go.RowKit

def tyOf : TypeDesc → Ty
  | .bool => .bool
  | .int k => .int k
  | .string => .str
  | .pointer e => .ptr e
  | .slice e => .slice e
  | .array n e => .array n e
  | .struct fs => .struct (fs.toList.map fun f => (f.offset, f.type))
  | _ => .other
def fldsB (P : Program) : TypeDesc → Bool
  | .struct fs => (fs.toList.mapM fun (f : Field) => (P.info? f.type).map fun j => (f.offset, j.size)).isSome
  | _ => true
/-- What a program says of its types. -/
def tiOf (P : Program) (t : Nat) : Option TI :=
  match P.underlying t, P.info? t with
  | some d, some inf => match inf.zero with
    | some zv => match cTs zv.cells.toList with
      | some z => match dOK d (tyOf d) && zv.cells.size == inf.size && fldsB P d with
        | true => some ⟨tyOf d, inf.size, inf.bytes, z⟩
        | false => none
      | none => none
    | none => none
  | _, _ => none

theorem tiOf_ok (P : Program) : TIok P (tiOf P) := ⟨fun t i h => by
  unfold tiOf at h
  split at h <;> try cases h
  rename_i d inf hd hi
  split at h <;> try cases h
  rename_i zv hz
  split at h <;> try cases h
  rename_i z hc
  split at h <;> simp only [Option.some.injEq, reduceCtorEq] at h
  rename_i hb
  subst h
  simp only [Bool.and_eq_true, beq_iff_eq] at hb
  refine ⟨⟨d, hd, hb.1.1⟩, ⟨inf, hi, rfl, rfl, zv, hz, hc, hb.1.2⟩, fun fs hfs => ?_⟩
  rw [hd] at hfs
  simp only [Option.some.injEq] at hfs
  subst hfs
  exact hb.2⟩

/-- A loop, by a measure. -/
theorem loop_ind {hd : S → S} {body : (Ex → S → Prop) → S → Prop} {K : Ex → S → Prop} {α : Type} (F : α → S) (μ : α → Nat) (G : α → Prop)
    (step : ∀ a, G a → ∀ R : S → Prop, (∀ a' s, hd s = F a' → G a' → μ a' < μ a → R s) → body (fun e s' => match e with | .n => R s' | e => K e s') (F a)) {a : α} {s : S} {lb : Lock body} {lK : Lock K} (hs : hd s = F a) (ha : G a) : wloop hd body K s lb lK := by
  have key : ∀ (n : Nat) (a : α) (s : S), hd s = F a → G a → μ a < n → rounds hd body K n s := by
    intro n
    induction n with
    | zero => intro a s _ _ h; omega
    | succ n ih =>
      intro a s hs ha hlt
      simp only [rounds, hs]
      exact step a ha (rounds hd body K n) fun a' s' h1 h2 h3 => ih a' s' h1 h2 (by omega)
  exact ⟨μ a + 1, key _ a s hs ha (Nat.lt_succ_self _)⟩

/-! ### Numbers as bits -/
theorem ofInt_toNat {n : Nat} (x : BitVec n) : BitVec.ofInt n (x.toNat : Int) = x := by
  rw [BitVec.ofInt_natCast, BitVec.ofNat_toNat, BitVec.setWidth_eq]
theorem wrap_nat32 (m : Nat) : IntKind.u32.wrap (m : Int) = ((BitVec.ofNat 32 m).toNat : Int) := by
  rw [IntKind.wrap_u32', BitVec.toNat_ofNat]; omega
theorem wrap_nat8 (m : Nat) : IntKind.u8.wrap (m : Int) = ((BitVec.ofNat 8 m).toNat : Int) := by
  rw [IntKind.wrap_u8', BitVec.toNat_ofNat]; omega
theorem wrap_nat64 (m : Nat) : IntKind.u64.wrap (m : Int) = ((BitVec.ofNat 64 m).toNat : Int) := by
  rw [IntKind.wrap_u64, BitVec.toNat_ofNat]; omega
theorem wrap_nat16 (m : Nat) : IntKind.u16.wrap (m : Int) = ((BitVec.ofNat 16 m).toNat : Int) := by
  rw [IntKind.wrap_u16, BitVec.toNat_ofNat]; omega
theorem wrap32 (x : BitVec 32) : IntKind.u32.wrap (x.toNat : Int) = (x.toNat : Int) := by rw [wrap_nat32, BitVec.ofNat_toNat, BitVec.setWidth_eq]
theorem wrap8 (x : BitVec 8) : IntKind.u8.wrap (x.toNat : Int) = (x.toNat : Int) := by rw [wrap_nat8, BitVec.ofNat_toNat, BitVec.setWidth_eq]
theorem wrap64 (x : BitVec 64) : IntKind.u64.wrap (x.toNat : Int) = (x.toNat : Int) := by rw [wrap_nat64, BitVec.ofNat_toNat, BitVec.setWidth_eq]
theorem wrap32_8 (x : BitVec 8) : IntKind.u32.wrap (x.toNat : Int) = ((x.setWidth 32).toNat : Int) := by rw [wrap_nat32, BitVec.ofNat_toNat]
theorem wrap8_32 (x : BitVec 32) : IntKind.u8.wrap (x.toNat : Int) = ((x.setWidth 8).toNat : Int) := by rw [wrap_nat8, BitVec.ofNat_toNat]
theorem fdiv_shr {n : Nat} (x : BitVec n) (k : Nat) : Int.fdiv (x.toNat : Int) (2 ^ k) = ((x >>> k).toNat : Int) := by
  rw [BitVec.toNat_ushiftRight, Nat.shiftRight_eq_div_pow]
  have : (0 : Int) ≤ 2 ^ k := Int.pow_nonneg (by omega)
  rw [Int.fdiv_eq_ediv_of_nonneg _ this]
  simp
theorem mul_shl32 (x : BitVec 32) (k : Nat) : IntKind.u32.wrap ((x.toNat : Int) * 2 ^ k) = ((x <<< k).toNat : Int) := by
  rw [show ((x.toNat : Int) * 2 ^ k) = ((x.toNat * 2 ^ k : Nat) : Int) by simp, wrap_nat32, BitVec.toNat_ofNat, BitVec.toNat_shiftLeft, Nat.shiftLeft_eq]
theorem neg32 (x : BitVec 32) : IntKind.u32.wrap (0 - (x.toNat : Int)) = ((-x).toNat : Int) := by
  rw [IntKind.wrap_u32', BitVec.toNat_neg]
  have := x.isLt
  omega
theorem add32 (x y : BitVec 32) : IntKind.u32.wrap ((x.toNat : Int) + (y.toNat : Int)) = ((x + y).toNat : Int) := by
  rw [show ((x.toNat : Int) + (y.toNat : Int)) = ((x.toNat + y.toNat : Nat) : Int) by simp, wrap_nat32, BitVec.toNat_ofNat, BitVec.toNat_add]
theorem not32 (x : BitVec 32) : IntKind.u32.wrap (((BitVec.ofInt 32 IntKind.u32.max) ^^^ x).toNat : Int) = ((~~~x).toNat : Int) := by
  have : BitVec.ofInt 32 IntKind.u32.max = BitVec.allOnes 32 := by decide
  rw [wrap32, this, BitVec.allOnes_xor]
theorem wrap_i64_id {n : Int} (h0 : -9223372036854775808 ≤ n) (h1 : n < 9223372036854775808) : IntKind.i64.wrap n = n := by
  rw [IntKind.wrap_i64]; omega
theorem bv32_of {n : Int} (h0 : 0 ≤ n) (h1 : n < 4294967296) : n = ((BitVec.ofInt 32 n).toNat : Int) := by
  rw [BitVec.toNat_ofInt]
  omega
theorem bv8_of {n : Int} (h0 : 0 ≤ n) (h1 : n < 256) : n = ((BitVec.ofInt 8 n).toNat : Int) := by
  rw [BitVec.toNat_ofInt]
  omega
end Go.Proofs.Ytadnjellfiafaaa.Pm
