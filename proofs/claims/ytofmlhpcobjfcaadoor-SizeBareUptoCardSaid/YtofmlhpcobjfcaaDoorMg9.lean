/- Maps of a function's own, on plain data. No program in sight. Conditions: none. -/
import Derived.Test.YtofmlhpcobjfcaaDoorMg4
set_option linter.unusedVariables false
set_option linter.unusedSimpArgs false
namespace Go.Proofs.YtofmlhpcobjfcaaDoor
open Go.RowKit
/-! ### Keys -/
/-! ### Entries -/
section
variable {P : Program} {w : World}
end
/-! ### Steps -/
section
variable {P : Program} {st : List Bx} {e : Nat → D} {o : Oper}
end
end Go.Proofs.YtofmlhpcobjfcaaDoor
