/- sha: the statements' examples. No law of Go's is stated here. -/
import Derived.Test.YtgkmhmhbepfiaaaDoorPmHm
set_option linter.all false
set_option maxRecDepth 100000
set_option maxHeartbeats 2000000
namespace Go.Proofs.YtgkmhmhbepfiaaaDoor.Pm
open Go Go.RowKit
end Go.Proofs.YtgkmhmhbepfiaaaDoor.Pm
