/- What a law is handed, opened as plain data: the parts. No condition. -/
import Derived.Test.YtfbopaaambkfkaaGreatDoorMg11
import Derived.Test.YtfbopaaambkfkaaGreatDoorRows
import Derived.Lib.LaidTab
import Derived.Test.YtfbopaaambkfkaaGreatDoorMg8
import Derived.OpenShut
set_option linter.unusedVariables false
set_option maxRecDepth 100000
set_option maxHeartbeats 8000000
set_option linter.unusedSimpArgs false
namespace Go.Proofs.YtfbopaaambkfkaaGreatDoor
open Go.RowKit
section
variable {H:Type} {enc:TypeId×Value→H} {P:Program} {W:World}
end
section
variable {H:Type} {enc:TypeId×Value→H} {W:World}
end
section
variable {H:Type} {enc:TypeId×Value→H} {W:World}
end
end Go.Proofs.YtfbopaaambkfkaaGreatDoor
