/- Appends and slice literals within a region of drawn order. No program in sight. Conditions: none. -/
import Derived.Test.YthkojpnjdpbcgaaGreatDoorMg15
set_option linter.unusedVariables false
set_option maxRecDepth 100000
set_option maxHeartbeats 8000000
set_option linter.unusedSimpArgs false
namespace Go.Proofs.YthkojpnjdpbcgaaGreatDoor
open Go.RowKit
section
variable {P:Program} {C:Cx P} {g:D} {ops:Array Oper} {bs:List Nat} {s0:List Bx} {ws:List (Nat×List Bx)} {k:Nat} {r:List Oper} {e:Nat→D} {dst:Option Nat} {ty T:TypeId} {pos:String} {after:Array Edge} {guard:Option (Nat×Bool)} {K:(Nat→D)→Prop} {st st':List Bx} {n i ver bt:Nat} {rows rows2 rows':List (List A)} {zr:List A} {s x:Operand} {d:D}
end
end Go.Proofs.YthkojpnjdpbcgaaGreatDoor
