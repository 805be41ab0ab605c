/- The law WitnessOf. -/
import Derived.Test.YtnindeoemfgkeaaRRRRWit5
namespace Go.Proofs.YtnindeoemfgkeaaRRRR
open Go.RowKit
set_option maxHeartbeats 2000000 in
set_option maxRecDepth 100000 in
theorem law51_out (i : Int) (w : World) (hi : i < 0 ∨ 6 ≤ i) : Calls Try.prog 5 #[.int .i64 i] w fun e w' => e = .returned (.bool true) ∧ Grw w w' := by
  have hof := fun w => wOf_out i w hi
  have HOF := Lib.hid hof
  have hcs : decide (i < 0) = true ∨ (decide (i < 0) = false ∧ decide (6 ≤ i) = true) := by simp; omega
  clear hi hof
  rcases hcs with h1 | ⟨h1, h2⟩
  all_goals
    go_enter Try.func5, Try.ntmps5
    go_wp2_with fail
    refine (HOF.out _).mono ?_
    rintro e w' ⟨rfl, xh, xd, rfl⟩
    unfold wcV wZero
    dsimp only
    go_wp2_with fail
    refine (r51All_any _).mono ?_
    rintro e w' ⟨rfl, rfl⟩
    obtain ⟨yh, hy⟩ : ∃ yh : Array Obj, yh = #[.cells (wCases.flatMap wcC).toArray 45] := ⟨_, rfl⟩
    generalize (wCases.flatMap wcC).toArray = cs at *
    go_wp2_with (go_at_call 16; refine (l51awake_any _).mono ?_; rintro e w' ⟨rfl, zh, zd, rfl⟩)
    go_ret
    exact ⟨rfl, by first | exact Grw.refl _ | (repeat (first | exact Grw.refl _ | apply Grw.ext | apply Grw.alloc | apply Grw.drewN | apply Grw.drew)); done⟩
end Go.Proofs.YtnindeoemfgkeaaRRRR
