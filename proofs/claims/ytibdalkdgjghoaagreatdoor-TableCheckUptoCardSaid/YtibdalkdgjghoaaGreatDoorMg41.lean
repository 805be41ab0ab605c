/- scope.Place on plain data. Conditions: at most 2^20 variables each. -/
import Derived.Test.YtibdalkdgjghoaaGreatDoorMg38
import Derived.Test.YtibdalkdgjghoaaGreatDoorMg21
set_option linter.unusedVariables false
set_option maxRecDepth 100000
set_option maxHeartbeats 8000000
set_option linter.unusedSimpArgs false
namespace Go.Proofs.YtibdalkdgjghoaaGreatDoor
open Go.RowKit
end Go.Proofs.YtibdalkdgjghoaaGreatDoor
namespace Go.Proofs.YtibdalkdgjghoaaGreatDoor
open Go.RowKit
end Go.Proofs.YtibdalkdgjghoaaGreatDoor
