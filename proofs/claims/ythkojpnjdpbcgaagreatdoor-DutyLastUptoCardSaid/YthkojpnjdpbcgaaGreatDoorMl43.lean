/- The program's statements: their names, on plain data. Conditions: at most 2^20 of anything. -/
import Derived.Test.YthkojpnjdpbcgaaGreatDoorMl27
set_option linter.unusedVariables false
set_option maxRecDepth 100000
set_option maxHeartbeats 8000000
set_option linter.unusedSimpArgs false
namespace Go.Proofs.YthkojpnjdpbcgaaGreatDoor
open Go.RowKit
@[go_sem] theorem evBin_and {b:Bool} {x y:Int}:qc5 b .and (.int .i64 x) (.int .i64 y)=some (.int .i64 (bitP x y)):=rfl
def qbg (h:Int) (m:Nat):Bool:=(h.toNat / m) % 2==1
def qin (b1 b2 b4 b8 b512:Bool) (s:St):Bool :=
 (bif (!b1||(b512&&s.x==[])) then s.x==[] else qaw s.x)&&((bif !b2 then s.y==[] else (qaw s.y||(b4&&s.y==[116,104,105,115])))&&(bif !b8 then s.name==[] else qaw s.name))
def qm8 (h:Int) (s:St):Bool:=qin (qbg h 1) (qbg h 2) (qbg h 4) (qbg h 8) (qbg h 512) s
end Go.Proofs.YthkojpnjdpbcgaaGreatDoor
