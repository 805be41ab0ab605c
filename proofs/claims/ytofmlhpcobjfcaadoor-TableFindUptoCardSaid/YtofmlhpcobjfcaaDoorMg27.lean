/- Chapter 10's example, on plain data. Conditions: at most 2^20 of anything. -/
import Derived.Test.YtofmlhpcobjfcaaDoorMg26
set_option linter.unusedVariables false
set_option linter.unusedSimpArgs false
namespace Go.Proofs.YtofmlhpcobjfcaaDoor
open Go.RowKit
theorem cz0 : Cs.at Cs.zero = [.v (.string (bs [])), .sl [], .v (.string (bs [])), .sl [], .sl [], .sl [], .v (.int .i64 0)] := rfl
end Go.Proofs.YtofmlhpcobjfcaaDoor
