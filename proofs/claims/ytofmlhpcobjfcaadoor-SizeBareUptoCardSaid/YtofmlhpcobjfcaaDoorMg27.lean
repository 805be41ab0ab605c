/- The document's programs on plain data: how great. Conditions: at most 2^20 of anything. -/
import Derived.Test.YtofmlhpcobjfcaaDoorMg19
set_option linter.unusedVariables false
set_option linter.unusedSimpArgs false
namespace Go.Proofs.YtofmlhpcobjfcaaDoor
open Go.RowKit
theorem w64 {a b c : Nat} (h : a + b = c) (hc : c ≤ 4000000) : IntKind.i64.wrap ((a : Int) + (b : Int)) = (c : Int) := by rw [wrap64 (by omega) (by omega)]; omega
end Go.Proofs.YtofmlhpcobjfcaaDoor
