/- scope.This on plain data. Conditions: at most 2^20 parameters. -/
import Derived.Test.YthkojpnjdpbcgaaGreatDoorMg24
import Derived.Test.YthkojpnjdpbcgaaGreatDoorMg14
import Derived.Test.YthkojpnjdpbcgaaGreatDoorMg26
import Derived.Test.YthkojpnjdpbcgaaGreatDoorMg16
import Derived.Test.YthkojpnjdpbcgaaGreatDoorMg31
import Derived.Test.YthkojpnjdpbcgaaGreatDoorMg32
set_option linter.unusedVariables false
set_option maxRecDepth 100000
set_option maxHeartbeats 8000000
set_option linter.unusedSimpArgs false
namespace Go.Proofs.YthkojpnjdpbcgaaGreatDoor
open Go.RowKit
end Go.Proofs.YthkojpnjdpbcgaaGreatDoor
