/- Contracts of layer 51 (witness and the document's answer): All, Count. -/
import Derived.Test.YtnindeoemfgkeaaRRRRWit2
namespace Go.Proofs.YtnindeoemfgkeaaRRRR
open Go.RowKit
set_option maxHeartbeats 4000000 in
set_option maxRecDepth 100000 in
theorem r51All_any (w : World) : Calls Try.prog 15 #[] w fun e w' => e = .returned (.slice (some ⟨w.heap.size, 0, none⟩) 6 6) ∧ w' = w.alloc (.cells (wCases.flatMap wcC).toArray 45) := by
  go_enter Try.func15, Try.ntmps15
  go_wp2
  go_ret
  exact ⟨rfl, rfl⟩
theorem wCount_any (w : World) : Calls Try.prog 17 #[] w fun e w' => e = .returned (.int .i64 6) ∧ Grw w w' := by
  go_enter Try.func17, Try.ntmps17
  go_wp2_with (go_at_call 37; refine (wCases_any _).mono ?_; rintro e w' ⟨w1, hg, rfl, rfl⟩)
  go_ret
  exact ⟨rfl, hg.alloc _⟩
end Go.Proofs.YtnindeoemfgkeaaRRRR
