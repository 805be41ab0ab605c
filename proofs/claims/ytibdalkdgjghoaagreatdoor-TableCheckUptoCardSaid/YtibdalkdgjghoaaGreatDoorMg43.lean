/- kind.Unique, shape.want, Fits and Gives on plain data. Conditions: at most 2^20 classes. -/
import Derived.Test.YtibdalkdgjghoaaGreatDoorMg41
import Derived.Test.YtibdalkdgjghoaaGreatDoorMg42
set_option linter.unusedVariables false
set_option maxRecDepth 100000
set_option maxHeartbeats 8000000
set_option linter.unusedSimpArgs false
namespace Go.Proofs.YtibdalkdgjghoaaGreatDoor
open Go.RowKit
end Go.Proofs.YtibdalkdgjghoaaGreatDoor
