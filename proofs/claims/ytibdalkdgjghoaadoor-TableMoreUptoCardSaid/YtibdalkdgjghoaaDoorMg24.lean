/- The program's statements: their names, on plain data. Conditions: at most 2^20 of anything. -/
import Derived.Test.YtibdalkdgjghoaaDoorMg23
set_option linter.unusedVariables false
set_option maxRecDepth 100000
set_option maxHeartbeats 8000000
set_option linter.unusedSimpArgs false
namespace Go.Proofs.YtibdalkdgjghoaaDoor
open Go.RowKit
@[go_sem] theorem evBin_and {b:Bool} {x y:Int}:evBin b .and (.int .i64 x) (.int .i64 y)=some (.int .i64 (bitP x y)):=rfl
def bitOf (h:Int) (m:Nat):Bool:=(h.toNat / m) % 2==1
def namedQ (b1 b2 b4 b8 b512:Bool) (s:St):Bool :=
 (bif (!b1||(b512&&s.x==[])) then s.x==[] else nameB s.x)&&((bif !b2 then s.y==[] else (nameB s.y||(b4&&s.y==[116,104,105,115])))&&(bif !b8 then s.name==[] else nameB s.name))
def namedP (h:Int) (s:St):Bool:=namedQ (bitOf h 1) (bitOf h 2) (bitOf h 4) (bitOf h 8) (bitOf h 512) s
end Go.Proofs.YtibdalkdgjghoaaDoor
