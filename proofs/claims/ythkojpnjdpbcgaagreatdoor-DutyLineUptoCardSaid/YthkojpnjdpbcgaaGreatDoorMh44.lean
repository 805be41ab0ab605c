/- The program's statements: their names, on plain data. Conditions: at most 2^20 of anything. -/
import Derived.Test.YthkojpnjdpbcgaaGreatDoorMh28
set_option linter.unusedVariables false
set_option maxRecDepth 100000
set_option maxHeartbeats 8000000
set_option linter.unusedSimpArgs false
namespace Go.Proofs.YthkojpnjdpbcgaaGreatDoor
open Go.RowKit
@[go_sem] theorem evBin_and {b:Bool} {x y:Int}:qdi b .and (.int .i64 x) (.int .i64 y)=some (.int .i64 (bitP x y)):=rfl
def qbo (h:Int) (m:Nat):Bool:=(h.toNat / m) % 2==1
def qjk (b1 b2 b4 b8 b512:Bool) (s:St):Bool :=
 (bif (!b1||(b512&&s.x==[])) then s.x==[] else qau s.x)&&((bif !b2 then s.y==[] else (qau s.y||(b4&&s.y==[116,104,105,115])))&&(bif !b8 then s.name==[] else qau s.name))
def qok (h:Int) (s:St):Bool:=qjk (qbo h 1) (qbo h 2) (qbo h 4) (qbo h 8) (qbo h 512) s
end Go.Proofs.YthkojpnjdpbcgaaGreatDoor
