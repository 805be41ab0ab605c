/- The law WitnessOf where the number is a witness's. -/
import Derived.Test.YtnindeoemfgkeaaRRRRWit6
namespace Go.Proofs.YtnindeoemfgkeaaRRRR
open Go.RowKit
theorem all_sl (W : World) : SlB wcC 6 (W.alloc (.cells (wCases.flatMap wcC).toArray 45)) (W.heap.size + 1) (some ⟨W.heap.size, 0, none⟩) wCases := by
  refine .inr ⟨W.heap.size, 0, rfl, by omega, by simp, fun i x hx j u hu => ?_⟩
  rw [World.cell?_alloc_new, Nat.zero_add, List.getElem?_toArray]
  exact flatMap_get (sz := 6) (fun _ => rfl) wCases i x hx j u hu
set_option maxHeartbeats 2000000 in
set_option maxRecDepth 100000 in
theorem law51_in (i : Nat) (x : WC) (w : World) (hx : wCases[i]? = some x) : Calls Try.prog 5 #[.int .i64 i] w fun e w' => e = .returned (.bool true) ∧ Grw w w' := by
  have hi : i < 6 := (List.getElem?_eq_some_iff.1 hx).1
  have f1 : (i : Int) < 6 := by omega
  have d1 : decide (6 ≤ i) = false := by simp; omega
  have d2 : decide ((6 : Int) ≤ (i : Int)) = false := by simp; omega
  have HX := Lib.hid hx
  clear hx
  go_enter Try.func5, Try.ntmps5
  go_wp2_with fail
  refine (wOf_in i x _ HX.out).mono ?_
  rintro e w' ⟨rfl, xh, xd, rfl⟩
  unfold wcV
  dsimp only
  go_wp2_with fail
  refine (r51All_any _).mono ?_
  rintro e w' ⟨rfl, rfl⟩
  obtain ⟨b, o, hA, _, hbl, hc⟩ := (all_sl ((wext w xh xd).alloc (.cells #[.string (bs x.text), .string (bs x.mended), .int .i64 x.mode, .int .i64 x.err, .int .i64 x.end_, .int .i64 x.fault] 40))).at_ HX.out
  injection hA with hA
  injection hA with hA1 hA2
  subst hA1
  subst hA2
  have e0 := hc 0 _ rfl
  have e1 := hc 1 _ rfl
  have e2 := hc 2 _ rfl
  have e3 := hc 3 _ rfl
  have e4 := hc 4 _ rfl
  have e5 := hc 5 _ rfl
  simp only [Nat.add_zero, Nat.zero_add, World.size_alloc, wext_size] at e0 e1 e2 e3 e4 e5
  clear hc
  generalize (wCases.flatMap wcC).toArray = cs at *
  go_wp2
  refine wp_region_grw (by kernel_rfl) (by kernel_rfl) ?_
  repeat (go_big_quiet_step ((first
      | (go_at_call 17; exact grw_quiet (wCount_any _))
      | (go_at_call 16; exact grw_quiet (l51awake_any _)))))
  refine wpQuiet_nil ?_
  rintro _ ⟨⟨gh, gd⟩, rfl⟩
  dsimp only
  go_wp2
  go_ret
  exact ⟨rfl, by first | exact Grw.refl _ | (repeat (first | exact Grw.refl _ | apply Grw.ext | apply Grw.alloc | apply Grw.drewN | apply Grw.drew)); done⟩
end Go.Proofs.YtnindeoemfgkeaaRRRR
