/- crc: joining sums, tails, changes, in plain Lean. No program in sight. -/
import Derived.Test.YtadnjellfiafaaaPmCp
set_option linter.all false
namespace Go.Proofs.Ytadnjellfiafaaa.Pm

theorem rowS_zero : rowS 0#32 = 0#32 := by decide
theorem itn_zero : ∀ n, itn rowS n 0#32 = 0#32
  | 0 => rfl
  | n + 1 => by simp only [itn]; rw [rowS_zero]; exact itn_zero n
theorem itn_add {α : Type} (f : α → α) : ∀ (m n : Nat) (a : α), itn f (m + n) a = itn f n (itn f m a)
  | 0, n, a => by rw [Nat.zero_add]; rfl
  | m + 1, n, a => by rw [show m + 1 + n = (m + n) + 1 by omega]; simp only [itn]; exact itn_add f m n (f a)
theorem itn_comm (m : Nat) (a : BitVec 32) : itn rowS m (rowS a) = rowS (itn rowS m a) := (itn_succ' rowS m a)

/-! ### Products -/
/-- The product, the bits below n still to come. -/
def tmsA (a : BitVec 32) : Nat → BitVec 32 → BitVec 32 → BitVec 32
  | 0, out, _ => out
  | n + 1, out, b => tmsA a n (if a.getLsbD n then out ^^^ b else out) (rowS b)
def timesL (a b : BitVec 32) : BitVec 32 := tmsA a 32 0#32 b
theorem tms_acc (a : BitVec 32) : ∀ (n : Nat) (out b : BitVec 32), tmsA a n out b = out ^^^ tmsA a n 0#32 b
  | 0, out, b => by simp [tmsA]
  | n + 1, out, b => by
    simp only [tmsA]
    rw [tms_acc a n, tms_acc a n (if a.getLsbD n then 0#32 ^^^ b else 0#32)]
    cases a.getLsbD n <;> simp [BitVec.xor_assoc]
theorem tms_rowS (a : BitVec 32) : ∀ (n : Nat) (b : BitVec 32), tmsA a n 0#32 (rowS b) = rowS (tmsA a n 0#32 b)
  | 0, b => by simp [tmsA, rowS_zero]
  | n + 1, b => by
    simp only [tmsA]
    rw [tms_acc a n, tms_acc a n (if a.getLsbD n then 0#32 ^^^ b else 0#32), tms_rowS a n (rowS b), rowS_xor]
    cases a.getLsbD n <;> simp [rowS_zero]
theorem rowS_bit (n : Nat) (hn : n < 31) : rowS (1#32 <<< (n + 1)) = 1#32 <<< n := by
  rw [rowS_even _ (by simp [BitVec.getLsbD_shiftLeft])]
  apply BitVec.eq_of_getLsbD_eq
  intro i hi
  simp only [BitVec.getLsbD_ushiftRight, BitVec.getLsbD_shiftLeft, BitVec.getLsbD_one]
  rw [Bool.eq_iff_iff]
  simp
  omega
theorem tms_unit (a : BitVec 32) : ∀ (n : Nat), n ≤ 31 → ∀ i, (tmsA a (n + 1) 0#32 (1#32 <<< n)).getLsbD i = (decide (i < n + 1) && a.getLsbD i)
  | 0, _, i => by
    simp only [tmsA]
    by_cases h : i = 0
    · subst h; cases h : a.getLsbD 0 <;> simp [h]
    · cases a.getLsbD 0 <;> simp [BitVec.getLsbD_one, h]
  | n + 1, hn, i => by
    rw [tmsA, tms_acc, rowS_bit n (by omega), BitVec.getLsbD_xor, tms_unit a n (by omega) i]
    cases h : a.getLsbD (n + 1)
    · simp only [Bool.false_eq_true, if_false, BitVec.getLsbD_zero, Bool.false_xor]
      by_cases h1 : i < n + 1
      · simp [h1, show i < n + 1 + 1 by omega]
      · by_cases h2 : i = n + 1
        · subst h2; simp [h]
        · simp [h1, show ¬ i < n + 1 + 1 by omega]
    · simp only [if_true, BitVec.zero_xor, BitVec.getLsbD_shiftLeft, BitVec.getLsbD_one]
      by_cases h2 : i = n + 1
      · subst h2; simp [h]; omega
      · by_cases h1 : i < n + 1
        · simp [h1, show i < n + 1 + 1 by omega]
        · simp [h1, show ¬ i < n + 1 + 1 by omega]; omega
def oneP : BitVec 32 := 1#32 <<< 31
theorem times_unit (a : BitVec 32) : timesL a oneP = a := by
  apply BitVec.eq_of_getLsbD_eq
  intro i hi
  have := tms_unit a 31 (by omega) i
  unfold timesL oneP
  rw [this]
  simp [hi]
theorem times_itn (a : BitVec 32) : ∀ (m : Nat), timesL a (itn rowS m oneP) = itn rowS m a
  | 0 => times_unit a
  | m + 1 => by
    rw [itn_succ', itn_succ']
    unfold timesL
    rw [tms_rowS]
    have := times_itn a m
    unfold timesL at this
    rw [this]
theorem pow8 : 8388608#32 = itn rowS 8 oneP := by decide
/-- As many bytes 0 behind. -/
def shiftL (n : Nat) (a : BitVec 32) : BitVec 32 := itn rowS (8 * n) a
theorem shift_xor (n : Nat) (a b : BitVec 32) : shiftL n (a ^^^ b) = shiftL n a ^^^ shiftL n b := itn_xor _ _ _

/-! ### Running is linear -/
theorem byteL_eq (r : BitVec 32) (x : BitVec 8) : byteL r x = itn rowS 8 (r ^^^ x.setWidth 32) := by rw [← byteR_byteL, byteR_eq]
theorem run_cons (r : BitVec 32) (x : BitVec 8) (xs : List (BitVec 8)) : runL r (x :: xs) = runL (itn rowS 8 (r ^^^ x.setWidth 32)) xs := by
  simp only [runL, List.foldl_cons]; rw [byteL_eq]
theorem run_xor : ∀ (bs : List (BitVec 8)) (r s : BitVec 32), runL (r ^^^ s) bs = runL r bs ^^^ shiftL bs.length s
  | [], r, s => rfl
  | x :: xs, r, s => by
    rw [run_cons, run_cons, show r ^^^ s ^^^ x.setWidth 32 = (r ^^^ x.setWidth 32) ^^^ s by rw [BitVec.xor_assoc, BitVec.xor_comm s, BitVec.xor_assoc], itn_xor, run_xor xs]
    congr 1
theorem run_append (r : BitVec 32) (as bs : List (BitVec 8)) : runL r (as ++ bs) = runL (runL r as) bs := by simp [runL]
def updV (c : BitVec 32) (bs : List (BitVec 8)) : BitVec 32 := ~~~(runL (~~~c) bs)
theorem not_xor (a : BitVec 32) : ~~~a = BitVec.allOnes 32 ^^^ a := (BitVec.allOnes_xor).symm
theorem upd_upd (as bs : List (BitVec 8)) : updV (updV 0#32 as) bs = updV 0#32 (as ++ bs) := by
  unfold updV
  rw [BitVec.not_not, run_append]
theorem upd_join (as bs : List (BitVec 8)) : updV 0#32 (as ++ bs) = shiftL bs.length (updV 0#32 as) ^^^ updV 0#32 bs := by
  unfold updV
  have e : runL (~~~0#32) as = ~~~0#32 ^^^ ~~~(runL (~~~0#32) as) := by
    rw [not_xor (runL _ _), show ~~~(0#32) = BitVec.allOnes 32 by decide, ← BitVec.xor_assoc, BitVec.xor_self, BitVec.zero_xor]
  rw [run_append]
  conv => lhs; rw [e]
  rw [run_xor, not_xor, not_xor (runL (~~~0#32) bs), BitVec.xor_comm (shiftL _ _), BitVec.xor_assoc]
/-- Lists of bytes, mixed. -/
def mixL (as bs : List (BitVec 8)) : List (BitVec 8) := List.zipWith (· ^^^ ·) as bs
theorem run_mix : ∀ (as bs : List (BitVec 8)) (r s : BitVec 32), as.length = bs.length → runL (r ^^^ s) (mixL as bs) = runL r as ^^^ runL s bs
  | [], [], r, s, _ => rfl
  | a :: as, b :: bs, r, s, h => by
    have e : mixL (a :: as) (b :: bs) = (a ^^^ b) :: mixL as bs := rfl
    have hx : (a ^^^ b).setWidth 32 = a.setWidth 32 ^^^ b.setWidth 32 := by
      apply BitVec.eq_of_getLsbD_eq
      intro i hi
      simp only [BitVec.getLsbD_setWidth, BitVec.getLsbD_xor]
      cases decide (i < 32) <;> simp
    rw [e, run_cons, run_cons, run_cons, hx, show r ^^^ s ^^^ (a.setWidth 32 ^^^ b.setWidth 32) = (r ^^^ a.setWidth 32) ^^^ (s ^^^ b.setWidth 32) by
      rw [BitVec.xor_assoc, BitVec.xor_assoc, ← BitVec.xor_assoc s, BitVec.xor_comm s (a.setWidth 32), BitVec.xor_assoc], itn_xor]
    exact run_mix as bs _ _ (by simpa using h)
theorem mix_length {as bs : List (BitVec 8)} (h : as.length = bs.length) : (mixL as bs).length = as.length := by simp [mixL, h]
theorem upd_mix (as bs cs : List (BitVec 8)) (h : as.length = bs.length) (h' : as.length = cs.length) : updV 0#32 (mixL (mixL as bs) cs) = updV 0#32 as ^^^ updV 0#32 bs ^^^ updV 0#32 cs := by
  unfold updV
  have e : ~~~(0#32) = (~~~0#32 ^^^ ~~~0#32) ^^^ ~~~0#32 := by decide
  conv => lhs; rw [e]
  rw [run_mix _ _ _ _ (by rw [mix_length h]; exact h'), run_mix _ _ _ _ h]
  generalize runL (~~~0#32) as = x
  generalize runL (~~~0#32) bs = y
  generalize runL (~~~0#32) cs = z
  simp only [not_xor]
  generalize BitVec.allOnes 32 = o
  have e1 : o ^^^ x ^^^ (o ^^^ y) = x ^^^ y := by rw [BitVec.xor_comm o x, BitVec.xor_assoc, ← BitVec.xor_assoc o o y, BitVec.xor_self, BitVec.zero_xor]
  rw [e1, ← BitVec.xor_assoc (x ^^^ y), BitVec.xor_comm (x ^^^ y) o, BitVec.xor_assoc, ← BitVec.xor_assoc x y z, ← BitVec.xor_assoc o] <;> simp only [BitVec.xor_assoc]

/-! ### Steps back -/
def backL (r : BitVec 32) : BitVec 32 := ((r ^^^ (BitVec.ofInt 32 3988292384 &&& -(r >>> 31))) <<< 1) ||| (r >>> 31)
theorem high_cases (r : BitVec 32) : r >>> 31 = if r.getLsbD 31 then 1#32 else 0#32 := by
  apply BitVec.eq_of_getLsbD_eq
  intro i hi
  rw [BitVec.getLsbD_ushiftRight]
  by_cases h : i = 0
  · subst h; cases h : r.getLsbD 31 <;> simp [h]
  · rw [BitVec.getLsbD_of_ge _ _ (by omega)]
    cases r.getLsbD 31 <;> simp [BitVec.getLsbD_one, h]
theorem back_rowS (x : BitVec 32) : backL (rowS x) = x := by
  have hp : (BitVec.ofInt 32 3988292384).getLsbD 31 = true := by decide
  have h31 : (rowS x).getLsbD 31 = x.getLsbD 0 := by
    rw [rowS_eq, BitVec.getLsbD_xor, BitVec.getLsbD_ushiftRight, BitVec.getLsbD_of_ge x (1 + 31) (by omega), Bool.false_xor]
    cases x.getLsbD 0
    · simp
    · simpa using hp
  unfold backL
  rw [high_cases, h31, rowS_eq]
  have hx : ∀ i, i < 32 → ((x >>> 1) <<< 1).getLsbD i = (decide (i ≠ 0) && x.getLsbD i) := fun i hi => by
    rw [BitVec.getLsbD_shiftLeft, BitVec.getLsbD_ushiftRight]
    by_cases h : i = 0
    · subst h; simp
    · rw [show 1 + (i - 1) = i by omega]; simp [hi, h]
  cases h0 : x.getLsbD 0
  · simp only [Bool.false_eq_true, if_false, BitVec.xor_zero]
    apply BitVec.eq_of_getLsbD_eq
    intro i hi
    have e : -(0#32) = 0#32 := by decide
    rw [e, BitVec.and_zero, BitVec.xor_zero, BitVec.or_zero, hx i hi]
    by_cases h : i = 0
    · subst h; simpa using h0
    · simp [h]
  · simp only [if_true]
    have e : BitVec.ofInt 32 3988292384 &&& -(1#32) = BitVec.ofInt 32 3988292384 := by decide
    rw [e, BitVec.xor_assoc, BitVec.xor_self, BitVec.xor_zero]
    apply BitVec.eq_of_getLsbD_eq
    intro i hi
    rw [BitVec.getLsbD_or, hx i hi]
    by_cases h : i = 0
    · subst h; simpa using h0
    · simp [h, BitVec.getLsbD_one]
theorem rowS_back (x : BitVec 32) : rowS (backL x) = x := by
  have hp : (BitVec.ofInt 32 3988292384).getLsbD 31 = true := by decide
  unfold backL
  rw [high_cases]
  have key : ∀ (y : BitVec 32), y.getLsbD 31 = false → (y <<< 1) >>> 1 = y := fun y hy => by
    apply BitVec.eq_of_getLsbD_eq
    intro i hi
    rw [BitVec.getLsbD_ushiftRight, BitVec.getLsbD_shiftLeft]
    by_cases h : i = 31
    · subst h; simpa using hy
    · simp [show 1 + i < 32 by omega]
  have low : ∀ (y : BitVec 32), (y <<< 1).getLsbD 0 = false := fun y => by simp
  cases h : x.getLsbD 31
  · simp only [Bool.false_eq_true, if_false]
    have e : -(0#32) = 0#32 := by decide
    rw [e, BitVec.and_zero, BitVec.xor_zero, BitVec.or_zero, rowS_even _ (low x), key x h]
  · simp only [if_true]
    have e : BitVec.ofInt 32 3988292384 &&& -(1#32) = BitVec.ofInt 32 3988292384 := by decide
    rw [e]
    generalize hy : x ^^^ BitVec.ofInt 32 3988292384 = y
    have hy31 : y.getLsbD 31 = false := by rw [← hy, BitVec.getLsbD_xor, h, hp]; rfl
    have hbit : (y <<< 1 ||| 1#32).getLsbD 0 = true := by simp
    rw [rowS_eq, hbit]
    simp only [if_true]
    have e2 : (y <<< 1 ||| 1#32) >>> 1 = y := by
      apply BitVec.eq_of_getLsbD_eq
      intro i hi
      have := congrArg (fun z => z.getLsbD i) (key y hy31)
      simp only [BitVec.getLsbD_ushiftRight] at this
      rw [BitVec.getLsbD_ushiftRight, BitVec.getLsbD_or, this, BitVec.getLsbD_one]
      simp
    rw [e2, ← hy, BitVec.xor_assoc, BitVec.xor_self, BitVec.xor_zero]
theorem itn_back : ∀ (n : Nat) (x : BitVec 32), itn rowS n (itn backL n x) = x
  | 0, _ => rfl
  | n + 1, x => by
    rw [itn_succ' backL]
    simp only [itn]
    rw [rowS_back]
    exact itn_back n x
theorem back_itn : ∀ (n : Nat) (x : BitVec 32), itn backL n (itn rowS n x) = x
  | 0, _ => rfl
  | n + 1, x => by
    rw [itn_succ' rowS]
    simp only [itn]
    rw [back_rowS]
    exact back_itn n x
theorem itn_inj (n : Nat) {x y : BitVec 32} (h : itn rowS n x = itn rowS n y) : x = y := by rw [← back_itn n x, h, back_itn]

/-! ### Four bytes -/
def le4 (b0 b1 b2 b3 : BitVec 8) : BitVec 32 := b0.setWidth 32 ^^^ (b1.setWidth 32 <<< 8) ^^^ (b2.setWidth 32 <<< 16) ^^^ (b3.setWidth 32 <<< 24)
theorem itn_shl (k : Nat) (x : BitVec 8) (hk : k ≤ 24) : itn rowS k (x.setWidth 32 <<< k) = x.setWidth 32 := by
  rw [itn_even k _ fun i hi => by simp [hi]]
  apply BitVec.eq_of_getLsbD_eq
  intro i hi
  rw [BitVec.getLsbD_ushiftRight, BitVec.getLsbD_shiftLeft, show k + i - k = i by omega]
  by_cases h : i < 8
  · simp [show k + i < 32 by omega]
  · rw [BitVec.getLsbD_setWidth]
    have : x.getLsbD i = false := BitVec.getLsbD_of_ge _ _ (by omega)
    simp [this]
theorem run_four (r : BitVec 32) (b0 b1 b2 b3 : BitVec 8) : runL r [b0, b1, b2, b3] = itn rowS 32 (r ^^^ le4 b0 b1 b2 b3) := by
  rw [run_cons, run_cons, run_cons, run_cons]
  show itn rowS 8 (itn rowS 8 (itn rowS 8 (itn rowS 8 (r ^^^ b0.setWidth 32) ^^^ b1.setWidth 32) ^^^ b2.setWidth 32) ^^^ b3.setWidth 32) = _
  conv => lhs; rw [← itn_shl 8 b1 (by omega), ← itn_shl 16 b2 (by omega), ← itn_shl 24 b3 (by omega)]
  rw [← itn_xor, ← itn_add, ← itn_xor, ← itn_add, ← itn_xor, ← itn_add]
  unfold le4
  simp only [BitVec.xor_assoc]
theorem le4_bytes (r : BitVec 32) : le4 (r.setWidth 8) ((r >>> 8).setWidth 8) ((r >>> 16).setWidth 8) ((r >>> 24).setWidth 8) = r := by
  apply BitVec.eq_of_getLsbD_eq
  intro i hi
  unfold le4
  simp only [BitVec.getLsbD_xor, BitVec.getLsbD_shiftLeft, BitVec.getLsbD_setWidth, BitVec.getLsbD_ushiftRight]
  by_cases h1 : i < 8
  · simp [hi, h1, show i < 16 by omega, show i < 24 by omega]
  · by_cases h2 : i < 16
    · simp [hi, h1, h2, show i < 24 by omega, show i - 8 < 8 by omega, show i - 8 < 32 by omega, show 8 + (i - 8) = i by omega]
    · by_cases h3 : i < 24
      · simp [hi, h1, h2, h3, show ¬ i - 8 < 8 by omega, show i - 16 < 8 by omega, show i - 16 < 32 by omega, show 16 + (i - 16) = i by omega]
      · simp [hi, h1, h2, h3, show ¬ i - 8 < 8 by omega, show ¬ i - 16 < 8 by omega, show i - 24 < 8 by omega, show i - 24 < 32 by omega, show 24 + (i - 24) = i by omega]
theorem le4_inj {a0 a1 a2 a3 b0 b1 b2 b3 : BitVec 8} (h : le4 a0 a1 a2 a3 = le4 b0 b1 b2 b3) : a0 = b0 ∧ a1 = b1 ∧ a2 = b2 ∧ a3 = b3 := by
  have bit : ∀ (c0 c1 c2 c3 : BitVec 8) (i : Nat), i < 8 → (le4 c0 c1 c2 c3).getLsbD i = c0.getLsbD i ∧ (le4 c0 c1 c2 c3).getLsbD (i + 8) = c1.getLsbD i ∧ (le4 c0 c1 c2 c3).getLsbD (i + 16) = c2.getLsbD i ∧ (le4 c0 c1 c2 c3).getLsbD (i + 24) = c3.getLsbD i := fun c0 c1 c2 c3 i hi => by
    have hge : ∀ (c : BitVec 8) (k : Nat), 8 ≤ k → c.getLsbD k = false := fun c k hk => BitVec.getLsbD_of_ge _ _ hk
    unfold le4
    simp only [BitVec.getLsbD_xor, BitVec.getLsbD_shiftLeft, BitVec.getLsbD_setWidth]
    refine ⟨?_, ?_, ?_, ?_⟩
    · simp [show i < 32 by omega, hi, show i < 16 by omega, show i < 24 by omega]
    · rw [hge c0 (i + 8) (by omega)]
      simp [show i < 32 by omega, show i + 8 < 32 by omega, show i + 8 < 16 by omega, show i + 8 < 24 by omega]
    · rw [hge c0 (i + 16) (by omega), hge c1 (i + 16 - 8) (by omega)]
      simp [show i < 32 by omega, show i + 16 < 32 by omega, show i + 16 < 24 by omega]
    · rw [hge c0 (i + 24) (by omega), hge c1 (i + 24 - 8) (by omega), hge c2 (i + 24 - 16) (by omega)]
      simp [show i < 32 by omega, show i + 24 < 32 by omega]
  refine ⟨?_, ?_, ?_, ?_⟩ <;> apply BitVec.eq_of_getLsbD_eq <;> intro i hi
  · rw [← (bit a0 a1 a2 a3 i hi).1, h, (bit b0 b1 b2 b3 i hi).1]
  · rw [← (bit a0 a1 a2 a3 i hi).2.1, h, (bit b0 b1 b2 b3 i hi).2.1]
  · rw [← (bit a0 a1 a2 a3 i hi).2.2.1, h, (bit b0 b1 b2 b3 i hi).2.2.1]
  · rw [← (bit a0 a1 a2 a3 i hi).2.2.2, h, (bit b0 b1 b2 b3 i hi).2.2.2]
/-- The four bytes that make a sum. -/
def tailV (bs : List (BitVec 8)) (want : BitVec 32) : BitVec 32 := itn backL 32 (~~~want) ^^^ runL (~~~0#32) bs
def byteAt (r : BitVec 32) (k : Nat) : BitVec 8 := (r >>> (8 * k)).setWidth 8
def tailB (bs : List (BitVec 8)) (want : BitVec 32) : List (BitVec 8) := [byteAt (tailV bs want) 0, byteAt (tailV bs want) 1, byteAt (tailV bs want) 2, byteAt (tailV bs want) 3]
theorem upd_four (bs : List (BitVec 8)) (b0 b1 b2 b3 : BitVec 8) (want : BitVec 32) : updV 0#32 (bs ++ [b0, b1, b2, b3]) = want ↔ [b0, b1, b2, b3] = tailB bs want := by
  have hz : ∀ r : BitVec 32, byteAt r 0 = r.setWidth 8 := fun r => by simp [byteAt]
  have e : le4 (byteAt (tailV bs want) 0) (byteAt (tailV bs want) 1) (byteAt (tailV bs want) 2) (byteAt (tailV bs want) 3) = tailV bs want := by
    rw [hz]; exact le4_bytes _
  have h1 : updV 0#32 (bs ++ [b0, b1, b2, b3]) = want ↔ runL (~~~0#32) bs ^^^ le4 b0 b1 b2 b3 = itn backL 32 (~~~want) := by
    unfold updV
    rw [run_append, run_four]
    refine ⟨fun h => itn_inj 32 ?_, fun h => ?_⟩
    · rw [itn_back, ← h, BitVec.not_not]
    · rw [h, itn_back, BitVec.not_not]
  rw [h1]
  have h2 : runL (~~~0#32) bs ^^^ le4 b0 b1 b2 b3 = itn backL 32 (~~~want) ↔ le4 b0 b1 b2 b3 = tailV bs want := by
    unfold tailV
    refine ⟨fun h => ?_, fun h => ?_⟩
    · rw [← h, BitVec.xor_comm (runL _ _), BitVec.xor_assoc, BitVec.xor_self, BitVec.xor_zero]
    · rw [h, BitVec.xor_comm, BitVec.xor_assoc, BitVec.xor_self, BitVec.xor_zero]
  rw [h2, ← e]
  refine ⟨fun h => ?_, fun h => ?_⟩
  · obtain ⟨h0, h1, h2, h3⟩ := le4_inj h
    rw [h0, h1, h2, h3]; rfl
  · simp only [tailB, List.cons.injEq, and_true] at h
    obtain ⟨h0, h1, h2, h3⟩ := h
    rw [← h0, ← h1, ← h2, ← h3]
/-- Four neighbouring bytes are changed. -/
theorem upd_change (p q : List (BitVec 8)) (a0 a1 a2 a3 c0 c1 c2 c3 : BitVec 8) : updV 0#32 (p ++ [a0 ^^^ c0, a1 ^^^ c1, a2 ^^^ c2, a3 ^^^ c3] ++ q) = updV 0#32 (p ++ [a0, a1, a2, a3] ++ q) ↔ c0 = 0#8 ∧ c1 = 0#8 ∧ c2 = 0#8 ∧ c3 = 0#8 := by
  refine ⟨fun h => ?_, fun ⟨h0, h1, h2, h3⟩ => by rw [h0, h1, h2, h3]; simp⟩
  unfold updV at h
  rw [BitVec.not_inj, run_append, run_append, run_append, run_append] at h
  have inj : ∀ (bs : List (BitVec 8)) (r s : BitVec 32), runL r bs = runL s bs → r = s := fun bs r s h => by
    have e : s = r ^^^ (r ^^^ s) := by rw [← BitVec.xor_assoc, BitVec.xor_self, BitVec.zero_xor]
    rw [e, run_xor] at h
    have h0 : shiftL bs.length (r ^^^ s) = 0#32 := by
      have := congrArg (runL r bs ^^^ ·) h
      simp only [BitVec.xor_self, ← BitVec.xor_assoc, BitVec.zero_xor] at this
      exact this.symm
    have h1 : r ^^^ s = 0#32 := itn_inj (8 * bs.length) (by rw [itn_zero]; exact h0)
    rw [e, h1, BitVec.xor_zero]
  have h5 := inj q _ _ h
  rw [run_four, run_four] at h5
  have h6 := itn_inj 32 h5
  have h7 : le4 (a0 ^^^ c0) (a1 ^^^ c1) (a2 ^^^ c2) (a3 ^^^ c3) = le4 a0 a1 a2 a3 := by
    have := congrArg (runL (~~~0#32) p ^^^ ·) h6
    simpa only [← BitVec.xor_assoc, BitVec.xor_self, BitVec.zero_xor] using this
  obtain ⟨e0, e1, e2, e3⟩ := le4_inj h7
  have z : ∀ {a c : BitVec 8}, a ^^^ c = a → c = 0#8 := fun {a c} h => by
    have := congrArg (a ^^^ ·) h
    simpa only [← BitVec.xor_assoc, BitVec.xor_self, BitVec.zero_xor] using this
  exact ⟨z e0, z e1, z e2, z e3⟩
end Go.Proofs.Ytadnjellfiafaaa.Pm
