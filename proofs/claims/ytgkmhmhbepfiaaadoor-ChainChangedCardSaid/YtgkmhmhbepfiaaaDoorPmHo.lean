/- ShaParts. -/
import Derived.Test.YtgkmhmhbepfiaaaDoorPmHn
set_option linter.all false
set_option maxRecDepth 100000
set_option maxHeartbeats 2000000
namespace Go.Proofs.YtgkmhmhbepfiaaaDoor.Pm
open Go Go.RowKit
theorem s_Sum' (b : List (BitVec 8)) (hb : b.length ≤ 1000000) : Spec Tryd.prog 14 [.sl (bT b)] [] (.tup [.t (.agg (bN (ofV b))) true, .t (.i .i64 0) true]) := by
  have := s_sha_Sum b
  rw [show sumV b = ofV b from if_pos hb, show sumE b = 0 from if_pos hb] at this
  exact this
end Go.Proofs.YtgkmhmhbepfiaaaDoor.Pm
