/- Plain helpers, no program in sight: a region that draws its order, whose operations only read and whose callees write nothing that was there. Conditions: none. -/
import Derived.Test.YthkojpnjdpbcgaaGreatDoorMl0
set_option linter.unusedVariables false
set_option maxRecDepth 100000
set_option maxHeartbeats 8000000
set_option linter.unusedSimpArgs false
namespace Go.Proofs.YthkojpnjdpbcgaaGreatDoor
open Go.RowKit
structure HD where
 h:Array Obj
 d:Nat
instance:Inhabited HD:=⟨⟨#[],0⟩⟩
end Go.Proofs.YthkojpnjdpbcgaaGreatDoor
