/- The document's names that stand twice, on plain data. Conditions: at most 2^21 names. -/
import Derived.Test.YtibdalkdgjghoaaDoorMg32
import Derived.Test.YtibdalkdgjghoaaDoorMg17
set_option linter.unusedVariables false
set_option maxRecDepth 100000
set_option maxHeartbeats 8000000
set_option linter.unusedSimpArgs false
namespace Go.Proofs.YtibdalkdgjghoaaDoor
open Go.RowKit
@[go_sem] theorem strAt_ld {s:List UInt8}:ldRow none (strAt s) 0=some (.a (.v (.string (bs s)))):=rfl
end Go.Proofs.YtibdalkdgjghoaaDoor
