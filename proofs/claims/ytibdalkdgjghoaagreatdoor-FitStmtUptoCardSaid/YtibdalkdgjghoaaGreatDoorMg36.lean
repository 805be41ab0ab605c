/- Calls under a guard: one that is not made, one that is handed boxes. No program in sight. Conditions: none. -/
import Derived.Test.YtibdalkdgjghoaaGreatDoorMg15
set_option linter.unusedVariables false
set_option maxRecDepth 100000
set_option maxHeartbeats 8000000
set_option linter.unusedSimpArgs false
namespace Go.Proofs.YtibdalkdgjghoaaGreatDoor
open Go.RowKit
section
variable {P:Program} {C:Cx P} {ops:Array Oper} {r:List Oper} {e:Nat→D} {st st' st0 st1 bs':List Bx} {K:(Nat→D)→List Bx→Prop} {dst:Option Nat} {ty:TypeId} {pos:String} {after:Array Edge} {j:Nat} {b:Bool} {f:FuncId} {xs:List Operand} {tys:Array TypeId} {vs ds:List D} {d d' g:D} {op:Op}
end
end Go.Proofs.YtibdalkdgjghoaaGreatDoor
