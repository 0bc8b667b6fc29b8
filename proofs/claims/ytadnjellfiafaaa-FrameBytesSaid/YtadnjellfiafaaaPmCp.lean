/- crc: sums of bits, in plain Lean: what is computed, and that the two ways of computing agree. No program in sight. -/
set_option linter.all false
namespace Go.Proofs.Ytadnjellfiafaaa.Pm

def itn {α : Type} (f : α → α) : Nat → α → α
  | 0, a => a
  | n + 1, a => itn f n (f a)
theorem itn_succ' {α : Type} (f : α → α) : ∀ (n : Nat) (a : α), itn f (n + 1) a = f (itn f n a)
  | 0, _ => rfl
  | n + 1, a => itn_succ' f n (f a)
def rowS (r : BitVec 32) : BitVec 32 := (r >>> 1) ^^^ (BitVec.ofInt 32 3988292384 &&& -(r &&& BitVec.ofInt 32 1))
def rowL (r : BitVec 32) : BitVec 32 := itn rowS 8 r
def stepR (r b : BitVec 32) : BitVec 32 := if (r ^^^ b) &&& BitVec.ofInt 32 1 = BitVec.ofInt 32 1 then (r >>> 1) ^^^ BitVec.ofInt 32 3988292384 else r >>> 1
def bitR (b : BitVec 8) (i : Nat) : BitVec 32 := (b.setWidth 32 >>> i) &&& BitVec.ofInt 32 1
/-- From bit i on, n bits. -/
def bitsR (b : BitVec 8) : Nat → Nat → BitVec 32 → BitVec 32
  | 0, _, r => r
  | n + 1, i, r => bitsR b n (i + 1) (stepR r (bitR b i))
def byteR (r : BitVec 32) (b : BitVec 8) : BitVec 32 := bitsR b 8 0 r
def bytesR (r : BitVec 32) (bs : List (BitVec 8)) : BitVec 32 := bs.foldl byteR r
def byteL (r : BitVec 32) (x : BitVec 8) : BitVec 32 := (r >>> 8) ^^^ rowL ((r.setWidth 8 ^^^ x).setWidth 32)
def runL (r : BitVec 32) (bs : List (BitVec 8)) : BitVec 32 := bs.foldl byteL r

theorem and_one (x : BitVec 32) : x &&& BitVec.ofInt 32 1 = if x.getLsbD 0 then 1#32 else 0#32 := by
  have h1 : BitVec.ofInt 32 1 = 1#32 := by decide
  rw [h1]
  ext i hi
  by_cases h0 : i = 0
  · subst h0
    cases h : x.getLsbD 0 <;> simp [h, ← BitVec.getLsbD_eq_getElem]
  · have : (1#32)[i] = false := by
      rw [← BitVec.getLsbD_eq_getElem]
      simp [BitVec.getLsbD_one, h0]
    cases h : x.getLsbD 0 <;> simp [this]
theorem rowS_eq (x : BitVec 32) : rowS x = (x >>> 1) ^^^ (if x.getLsbD 0 then BitVec.ofInt 32 3988292384 else 0#32) := by
  unfold rowS
  rw [and_one]
  cases x.getLsbD 0
  · simp
  · simp only [if_true]
    congr 1
theorem shr_xor (x y : BitVec 32) (k : Nat) : (x ^^^ y) >>> k = (x >>> k) ^^^ (y >>> k) := by
  ext i hi; simp
theorem rowS_xor (x y : BitVec 32) : rowS (x ^^^ y) = rowS x ^^^ rowS y := by
  rw [rowS_eq, rowS_eq, rowS_eq, shr_xor, BitVec.getLsbD_xor]
  generalize x >>> 1 = p
  generalize y >>> 1 = q
  generalize BitVec.ofInt 32 3988292384 = c
  cases x.getLsbD 0 <;> cases y.getLsbD 0 <;> simp
  · rw [BitVec.xor_assoc]
  · rw [BitVec.xor_assoc, BitVec.xor_comm q c, BitVec.xor_assoc]
  · rw [BitVec.xor_assoc p c, ← BitVec.xor_assoc c q c, BitVec.xor_comm c q, BitVec.xor_assoc q c c, BitVec.xor_self, BitVec.xor_zero]
theorem rowS_even (x : BitVec 32) (h : x.getLsbD 0 = false) : rowS x = x >>> 1 := by rw [rowS_eq, h]; simp
theorem itn_xor : ∀ (n : Nat) (x y : BitVec 32), itn rowS n (x ^^^ y) = itn rowS n x ^^^ itn rowS n y
  | 0, _, _ => rfl
  | n + 1, x, y => by simp only [itn]; rw [rowS_xor, itn_xor n]
theorem itn_even : ∀ (n : Nat) (x : BitVec 32), (∀ i, i < n → x.getLsbD i = false) → itn rowS n x = x >>> n
  | 0, x, _ => by simp [itn]
  | n + 1, x, h => by
    rw [itn_succ', itn_even n x (fun i hi => h i (by omega)), rowS_even _ (by rw [BitVec.getLsbD_ushiftRight]; exact h n (by omega))]
    rw [← BitVec.shiftRight_add]
theorem stepR_eq (r b : BitVec 32) (hb : b >>> 1 = 0#32) : stepR r b = rowS (r ^^^ b) := by
  unfold stepR
  rw [rowS_eq, and_one, shr_xor, hb, BitVec.xor_zero]
  have h1 : BitVec.ofInt 32 1 = 1#32 := by decide
  rw [h1]
  cases (r ^^^ b).getLsbD 0
  · rw [if_neg (by decide)]; simp
  · simp
theorem bitR_shr (b : BitVec 8) (i : Nat) : bitR b i >>> 1 = 0#32 := by
  unfold bitR
  rw [and_one]
  cases (BitVec.setWidth 32 b >>> i).getLsbD 0 <;> decide
/-- A number without its lowest bit. -/
theorem clear_low (y : BitVec 32) : (y ^^^ (y &&& BitVec.ofInt 32 1)).getLsbD 0 = false ∧ (y ^^^ (y &&& BitVec.ofInt 32 1)) >>> 1 = y >>> 1 := by
  rw [and_one]
  constructor
  · rw [BitVec.getLsbD_xor]; cases h : y.getLsbD 0 <;> simp
  · rw [shr_xor]; cases h : y.getLsbD 0 <;> simp
theorem bitsR_eq (b : BitVec 8) : ∀ (n i : Nat) (x : BitVec 32), bitsR b n i (x ^^^ (b.setWidth 32 >>> i)) = itn rowS n x ^^^ (b.setWidth 32 >>> (i + n))
  | 0, i, x => rfl
  | n + 1, i, x => by
    simp only [bitsR, itn]
    rw [stepR_eq _ _ (bitR_shr b i), BitVec.xor_assoc, rowS_xor]
    unfold bitR
    obtain ⟨h1, h2⟩ := clear_low (b.setWidth 32 >>> i)
    rw [rowS_even _ h1, h2, ← BitVec.shiftRight_add, bitsR_eq b n (i + 1) (rowS x)]
    rw [show i + 1 + n = i + (n + 1) by omega]
theorem byteR_eq (r : BitVec 32) (b : BitVec 8) : byteR r b = itn rowS 8 (r ^^^ b.setWidth 32) := by
  have := bitsR_eq b 8 0 (r ^^^ b.setWidth 32)
  rw [BitVec.ushiftRight_zero, BitVec.xor_assoc, BitVec.xor_self, BitVec.xor_zero] at this
  unfold byteR
  rw [this]
  have h8 : b.setWidth 32 >>> (0 + 8) = 0#32 := by
    ext i hi
    simp only [BitVec.getElem_ushiftRight, BitVec.getElem_zero]
    rw [BitVec.getLsbD_setWidth]
    have : b.getLsbD (0 + 8 + i) = false := BitVec.getLsbD_of_ge _ _ (by omega)
    simp [this]
  rw [h8, BitVec.xor_zero]
theorem low_split (x : BitVec 32) : ∃ h : BitVec 32, x = h ^^^ (x.setWidth 8).setWidth 32 ∧ (∀ i, i < 8 → h.getLsbD i = false) ∧ h >>> 8 = x >>> 8 := by
  refine ⟨x ^^^ (x.setWidth 8).setWidth 32, by rw [BitVec.xor_assoc, BitVec.xor_self, BitVec.xor_zero], fun i hi => ?_, ?_⟩
  · rw [BitVec.getLsbD_xor, BitVec.getLsbD_setWidth, BitVec.getLsbD_setWidth]
    simp [hi, show i < 32 by omega]
  · rw [shr_xor]
    have h8 : (x.setWidth 8).setWidth 32 >>> 8 = 0#32 := by
      ext i hi
      simp only [BitVec.getElem_ushiftRight, BitVec.getElem_zero]
      rw [BitVec.getLsbD_setWidth]
      have : (x.setWidth 8).getLsbD (8 + i) = false := BitVec.getLsbD_of_ge _ _ (by omega)
      simp [this]
    rw [h8, BitVec.xor_zero]
theorem byteR_byteL (r : BitVec 32) (b : BitVec 8) : byteR r b = byteL r b := by
  rw [byteR_eq]
  unfold byteL rowL
  obtain ⟨h, h1, h2, h3⟩ := low_split r
  have e : r ^^^ b.setWidth 32 = h ^^^ ((r.setWidth 8 ^^^ b).setWidth 32) := by
    conv => lhs; rw [h1]
    rw [BitVec.xor_assoc]
    congr 1
  rw [e, itn_xor, itn_even 8 h h2, h3]
theorem bytes_run : ∀ (bs : List (BitVec 8)) (r : BitVec 32), bytesR r bs = runL r bs
  | [], _ => rfl
  | b :: bs, r => by
    simp only [bytesR, runL, List.foldl_cons]
    rw [byteR_byteL]
    exact bytes_run bs _
theorem row_byte (r : BitVec 32) : rowL r = byteR r 0#8 := by rw [byteR_eq]; simp [rowL]
end Go.Proofs.Ytadnjellfiafaaa.Pm
