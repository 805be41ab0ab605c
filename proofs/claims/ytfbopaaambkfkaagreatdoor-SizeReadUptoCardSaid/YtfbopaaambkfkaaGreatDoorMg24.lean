/- Contracts of the program's layer 2 (word): slices.Reverse at bytes; Digits. -/
import Derived.Test.YtfbopaaambkfkaaGreatDoorMg2
import Derived.Deep.LoopGhost
import Derived.Sort.WalkB12
import Derived.Lib.SlicesMore
import Derived.Laws.IdiomStrings
import Derived.RegionTactic
set_option linter.unusedVariables false
set_option maxRecDepth 100000
set_option maxHeartbeats 8000000
set_option linter.unusedSimpArgs false
namespace Go.Proofs.YtfbopaaambkfkaaGreatDoor
open Go.RowKit Go.Sort
end Go.Proofs.YtfbopaaambkfkaaGreatDoor
