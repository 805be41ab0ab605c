/- The document's statements on plain data. Conditions: at most 2^20 of anything. -/
import Derived.Test.YtofmlhpcobjfcaaDoorMg15
set_option linter.unusedVariables false
set_option linter.unusedSimpArgs false
namespace Go.Proofs.YtofmlhpcobjfcaaDoor
open Go.RowKit
theorem beqF {k c : Int} (h : k ≠ c) : (k == c) = false := by simpa using h
end Go.Proofs.YtofmlhpcobjfcaaDoor
namespace Go.Proofs.YtofmlhpcobjfcaaDoor
open Go.RowKit
end Go.Proofs.YtofmlhpcobjfcaaDoor
namespace Go.Proofs.YtofmlhpcobjfcaaDoor
open Go.RowKit
end Go.Proofs.YtofmlhpcobjfcaaDoor
