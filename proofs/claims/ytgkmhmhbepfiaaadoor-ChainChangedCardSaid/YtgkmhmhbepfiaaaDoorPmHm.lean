/- ShaSums. -/
import Derived.Test.YtgkmhmhbepfiaaaDoorPmMe
import Derived.Test.YtgkmhmhbepfiaaaDoorPmHs
set_option linter.all false
set_option maxRecDepth 100000
set_option maxHeartbeats 2000000
namespace Go.Proofs.YtgkmhmhbepfiaaaDoor.Pm
open Go Go.RowKit
theorem plains_bC (ws : List (BitVec 8)) : plains (bC ws) = some (bN ws, true) := by
  induction ws with
  | nil => rfl
  | cons b ws ih =>
    show plains (.t (.i .u8 b.toNat) true :: bC ws) = _
    simp only [plains, AV.plain, ih]
    rfl
theorem bN_isI (ws : List (BitVec 8)) : ∀ x ∈ bN ws, x.isI := by
  intro v hv
  simp only [bN, List.mem_map] at hv
  obtain ⟨b, _, rfl⟩ := hv
  trivial
theorem nat_beq8 (x y : BitVec 8) : ((x.toNat : Int) == (y.toNat : Int)) = (x == y) := by
  rw [Bool.eq_iff_iff]
  simp only [beq_iff_eq, Int.natCast_inj]
  exact ⟨BitVec.eq_of_toNat_eq, fun h => by rw [h]⟩
theorem eqCells_bN : ∀ (x y : List (BitVec 8)), x.length = y.length → eqCells (bN x) (bN y) = some (x == y)
  | [], [], _ => rfl
  | [], _ :: _, h => by simp at h
  | _ :: _, [], h => by simp at h
  | a :: x, b :: y, h => by
    show eqCells (.i .u8 a.toNat :: bN x) (.i .u8 b.toNat :: bN y) = _
    simp only [eqCells, if_true, eqCells_bN x y (by simpa using h), Option.map_some, nat_beq8]
    rfl
end Go.Proofs.YtgkmhmhbepfiaaaDoor.Pm
