/- Rows of nothing, written out. Conditions: none. -/
import Derived.Test.YtibdalkdgjghoaaGreatDoorMg5
set_option linter.unusedVariables false
set_option maxRecDepth 100000
set_option maxHeartbeats 8000000
set_option linter.unusedSimpArgs false
namespace Go.Proofs.YtibdalkdgjghoaaGreatDoor
end Go.Proofs.YtibdalkdgjghoaaGreatDoor
