/- The document's programs on plain data: whether they may be. Conditions: at most 2^20 of anything. -/
import Derived.Test.YtofmlhpcobjfcaaDoorMg15
set_option linter.unusedVariables false
set_option linter.unusedSimpArgs false
namespace Go.Proofs.YtofmlhpcobjfcaaDoor
open Go.RowKit
end Go.Proofs.YtofmlhpcobjfcaaDoor
