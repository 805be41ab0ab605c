/- kind.Unique, shape.want, Fits and Gives on plain data. Conditions: at most 2^20 classes. -/
import Derived.Test.YthkojpnjdpbcgaaGreatDoorMg24
import Derived.Test.YthkojpnjdpbcgaaGreatDoorMg25
set_option linter.unusedVariables false
set_option maxRecDepth 100000
set_option maxHeartbeats 8000000
set_option linter.unusedSimpArgs false
namespace Go.Proofs.YthkojpnjdpbcgaaGreatDoor
open Go.RowKit
end Go.Proofs.YthkojpnjdpbcgaaGreatDoor
