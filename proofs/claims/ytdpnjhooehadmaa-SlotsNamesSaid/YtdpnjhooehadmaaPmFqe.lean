/- frame: plain facts: whole records within bytes. No law of Go's is stated here. -/
import Derived.Test.YtdpnjhooehadmaaPmMf
set_option linter.all false
set_option maxRecDepth 100000
namespace Go.Proofs.Ytdpnjhooehadmaa.Pm
open Go Go.RowKit

end Go.Proofs.Ytdpnjhooehadmaa.Pm
