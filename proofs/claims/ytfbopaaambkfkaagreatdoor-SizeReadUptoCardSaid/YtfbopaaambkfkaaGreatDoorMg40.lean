/- The document's programs on plain data: whether they may be. Conditions: at most 2^20 of anything. -/
import Derived.Test.YtfbopaaambkfkaaGreatDoorMg12
set_option linter.unusedVariables false
set_option maxRecDepth 100000
set_option maxHeartbeats 8000000
set_option linter.unusedSimpArgs false
namespace Go.Proofs.YtfbopaaambkfkaaGreatDoor
open Go.RowKit
end Go.Proofs.YtfbopaaambkfkaaGreatDoor
