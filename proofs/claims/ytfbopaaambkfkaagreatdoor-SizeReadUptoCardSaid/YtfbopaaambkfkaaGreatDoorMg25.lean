/- The signs between two kids as plain data. No program in sight. Conditions: none. -/
import Derived.Test.YtfbopaaambkfkaaGreatDoorMg6
import Derived.Test.YtfbopaaambkfkaaGreatDoorMg22
set_option linter.unusedVariables false
set_option maxRecDepth 100000
set_option maxHeartbeats 8000000
set_option linter.unusedSimpArgs false
namespace Go.Proofs.YtfbopaaambkfkaaGreatDoor
open Go.RowKit
structure Bd where
 sign:List UInt8
 level:Int
 kind:Int
def Bd.at:Bd→List A
 | ⟨sign,level,kind⟩=>[.v (.string (bs sign)),.v (.int .i64 level),.v (.int .i64 kind)]
section
variable (s:Bd)
@[go_sem] theorem Bd.len:(Bd.at s).length=3:=by obtain⟨sign,level,kind⟩:=s;rfl
end
end Go.Proofs.YtfbopaaambkfkaaGreatDoor
