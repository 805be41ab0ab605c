/- Loops whose rounds leave boxes, of which some are kept: the kept ones grow from round to round. No program in sight. Conditions: none. -/
import Derived.Test.YtibdalkdgjghoaaGreatDoorMc21
set_option linter.unusedVariables false
set_option maxRecDepth 100000
set_option maxHeartbeats 8000000
set_option linter.unusedSimpArgs false
namespace Go.Proofs.YtibdalkdgjghoaaGreatDoor
open Go.RowKit
section
variable {P : Program} {C : Cx P} {n : Nat} {Q : Exit → (Nat → D) → List Bx → Prop} {e : Nat → D} {st : List Bx}
end
end Go.Proofs.YtibdalkdgjghoaaGreatDoor
