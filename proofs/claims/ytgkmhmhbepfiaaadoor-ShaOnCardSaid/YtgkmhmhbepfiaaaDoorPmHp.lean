/- ShaBlocks. -/
import Derived.Test.YtgkmhmhbepfiaaaDoorPmHo
set_option linter.all false
set_option maxRecDepth 100000
set_option maxHeartbeats 2000000
namespace Go.Proofs.YtgkmhmhbepfiaaaDoor.Pm
open Go Go.RowKit

theorem s_Block' (w : H8) (b : List (BitVec 8)) (hb : b.length = 64) : Spec Tryd.prog 18 [.agg w.cells, .sl (bT b)] [] (.tup [.t (.agg (takenV w b).cells) true, .t (.i .i64 0) true]) := by
  have h := s_sha_Block w b
  rw [show blockV w b = takenV w b from if_pos hb, show blockE b = 0 from if_pos hb] at h
  exact h
end Go.Proofs.YtgkmhmhbepfiaaaDoor.Pm
