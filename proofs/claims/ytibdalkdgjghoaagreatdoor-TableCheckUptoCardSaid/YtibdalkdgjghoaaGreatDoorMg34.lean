/- Chapter 10's example, on plain data. Conditions: at most 2^20 of anything. -/
import Derived.Test.YtibdalkdgjghoaaGreatDoorMg33
set_option linter.unusedVariables false
set_option maxRecDepth 100000
set_option maxHeartbeats 8000000
set_option linter.unusedSimpArgs false
namespace Go.Proofs.YtibdalkdgjghoaaGreatDoor
open Go.RowKit
theorem cz0:Cs.at Cs.zero=[.v (.string (bs [])),.sl [],.v (.string (bs [])),.sl [],.sl [],.sl [],.v (.int .i64 0)]:=rfl
end Go.Proofs.YtibdalkdgjghoaaGreatDoor
