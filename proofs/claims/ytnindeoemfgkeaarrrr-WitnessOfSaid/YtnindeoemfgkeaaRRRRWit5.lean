/- Chapter 51's example is true; the law WitnessOf. -/
import Derived.Test.YtnindeoemfgkeaaRRRRWit4
namespace Go.Proofs.YtnindeoemfgkeaaRRRR
open Go.RowKit
theorem wOf_zero (w : World) : Calls Try.prog 14 #[.int .i64 0] w fun e w' => ∃ t m : ByteArray, e = .returned (.tuple #[.agg #[.string t, .string m, .int .i64 1, .int .i64 22, .int .i64 7, .int .i64 2], .bool true]) ∧ Grw w w' :=
  (wOf_in 0 ⟨wT0, wM0, 1, 22, 7, 2⟩ w rfl).mono fun e w' ⟨he, hg⟩ => ⟨_, _, he, hg⟩
set_option maxHeartbeats 1000000 in
theorem l51awake_any (w : World) : Calls Try.prog 16 #[] w fun e w' => e = .returned (.bool true) ∧ Grw w w' := by
  go_enter Try.func16, Try.ntmps16
  go_wp2_with fail
  refine (wOf_zero _).mono ?_
  rintro e w' ⟨t, m, rfl, xh, xd, rfl⟩
  go_wp2_with (go_at_call 17; refine (wCount_any _).mono ?_; rintro e w' ⟨rfl, yh, yd, rfl⟩)
  go_ret
  exact ⟨rfl, by first | exact Grw.refl _ | (repeat (first | exact Grw.refl _ | apply Grw.ext | apply Grw.alloc | apply Grw.drewN | apply Grw.drew)); done⟩
end Go.Proofs.YtnindeoemfgkeaaRRRR
