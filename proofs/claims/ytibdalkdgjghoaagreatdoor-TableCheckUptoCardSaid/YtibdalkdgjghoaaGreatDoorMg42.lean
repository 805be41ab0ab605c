/- Classes above classes, on plain data: above.up and the document's chain. Conditions: at most 2^20 classes. -/
import Derived.Test.YtibdalkdgjghoaaGreatDoorMg21
set_option linter.unusedVariables false
set_option maxRecDepth 100000
set_option maxHeartbeats 8000000
set_option linter.unusedSimpArgs false
namespace Go.Proofs.YtibdalkdgjghoaaGreatDoor
open Go.RowKit
def inAt (i:Int):List A:=[.v (.int .i64 i)]
@[go_sem] theorem inAt_len {i:Int}:(inAt i).length=1:=rfl
@[go_sem] theorem inAt_ld {i:Int}:ldRow none (inAt i) 0=some (.a (.v (.int .i64 i))):=rfl
@[go_sem] theorem inAt_cl {i:Int}:(inAt i).all clA=true:=rfl
@[go_sem] theorem allLen_in {l:List Int}:allLen 1 (l.map inAt)=true:=allLen_map (f:=inAt) (fun _=>rfl) l
end Go.Proofs.YtibdalkdgjghoaaGreatDoor
