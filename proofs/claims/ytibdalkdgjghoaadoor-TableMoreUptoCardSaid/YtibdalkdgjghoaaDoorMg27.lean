/- The document's programs on plain data: whether they may be, and how many statements. Conditions: at most 2^20 of anything. -/
import Derived.Test.YtibdalkdgjghoaaDoorMg25
set_option linter.unusedVariables false
set_option maxRecDepth 100000
set_option maxHeartbeats 8000000
set_option linter.unusedSimpArgs false
namespace Go.Proofs.YtibdalkdgjghoaaDoor
open Go.RowKit
theorem Me.cnt_le (m:Me):St.cnts m.body≤m.sz:=by
 have:=(St.deeps_le m.body fun e _=>St.deep_le _ e (Nat.le_refl _)).2
 unfold Me.sz;omega
theorem Cs.stmts_le (c:Cs):c.stmts≤c.sz:=by
 have:c.stmts≤sumOf Me.sz c.methods:=sumOf_le _ fun m _=>m.cnt_le
 unfold Cs.sz;omega
end Go.Proofs.YtibdalkdgjghoaaDoor
