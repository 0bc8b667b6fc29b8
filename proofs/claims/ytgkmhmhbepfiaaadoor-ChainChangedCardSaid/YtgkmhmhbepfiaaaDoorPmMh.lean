/- Texts of this proof in one file: PmJi, PmJj, PmJl. No law of Go's is stated here. -/
import Derived.Test.YtgkmhmhbepfiaaaDoorPmMg
set_option linter.all false
set_option maxRecDepth 100000
set_option maxHeartbeats 2000000
namespace Go.Proofs.YtgkmhmhbepfiaaaDoor.Pm
open Go Go.RowKit
attribute [go_sem] Wit.cells
structure Wit.fine (w : Wit) : Prop where
  p : w.prev.length = 32
  l : ∀ d ∈ w.later, d.length = 32
  lo : -9223372036854775808 ≤ w.pos
  hi : w.pos ≤ 9223372036854775807
  dl : w.data.length ≤ 1000000
  ll : w.later.length ≤ 1000000
theorem id1s_bF : ∀ (ws : List (BitVec 8)) (X : List AV), id1s (bF ws ++ X) = id1s X
  | [], X => rfl
  | b :: ws, X => by
    show id1s (.t (.i .u8 b.toNat) false :: (bF ws ++ X)) = _
    simp only [id1s, AV.id1, List.nil_append, id1s_bF ws X]
attribute [go_sem] id1s_bF
end Go.Proofs.YtgkmhmhbepfiaaaDoor.Pm
