/- Contract of layer 51 (witness): Of. -/
import Derived.Test.YtnindeoemfgkeaaRRRRWit3
namespace Go.Proofs.YtnindeoemfgkeaaRRRR
open Go.RowKit
theorem wCases_sl (W : World) : SlB wcC 6 (W.alloc (.cells (wCases.flatMap wcC).toArray 40)) (W.heap.size + 1) (some ⟨W.heap.size, 0, none⟩) wCases := by
  refine .inr ⟨W.heap.size, 0, rfl, by omega, by simp, fun i x hx j u hu => ?_⟩
  rw [World.cell?_alloc_new, Nat.zero_add, List.getElem?_toArray]
  exact flatMap_get (sz := 6) (fun _ => rfl) wCases i x hx j u hu
theorem wCases_len : wCases.length = 6 := rfl
def wZero : WC := ⟨[], [], 0, 0, 0, 0⟩
def wcV (x : WC) : Value := .agg #[.string (bs x.text), .string (bs x.mended), .int .i64 x.mode, .int .i64 x.err, .int .i64 x.end_, .int .i64 x.fault]
set_option maxHeartbeats 2000000 in
set_option maxRecDepth 100000 in
theorem wOf_in (i : Nat) (x : WC) (w : World) (hx : wCases[i]? = some x) : Calls Try.prog 14 #[.int .i64 i] w fun e w' => e = .returned (.tuple #[wcV x, .bool true]) ∧ Grw w w' := by
  have hi : i < 6 := (List.getElem?_eq_some_iff.1 hx).1
  have f1 : (i : Int) < 6 := by omega
  have d1 : decide (6 ≤ i) = false := by simp; omega
  have d2 : decide ((6 : Int) ≤ (i : Int)) = false := by simp; omega
  have HX := Lib.hid hx
  clear hx hi
  go_enter Try.func14, Try.ntmps14
  go_wp2_with fail
  refine (wCases_any _).mono ?_
  rintro e w' ⟨w1, hg, rfl, rfl⟩
  obtain ⟨b, o, hA, _, hbl, hc⟩ := (wCases_sl w1).at_ HX.out
  injection hA with hA
  injection hA with hA1 hA2
  subst hA1
  subst hA2
  have e0 := hc 0 _ rfl
  have e1 := hc 1 _ rfl
  have e2 := hc 2 _ rfl
  have e3 := hc 3 _ rfl
  have e4 := hc 4 _ rfl
  have e5 := hc 5 _ rfl
  have hbox := hg.below.size
  simp only [Nat.add_zero, Nat.zero_add] at e0 e1 e2 e3 e4 e5
  obtain ⟨W, hW⟩ : ∃ W, W = w1.alloc (.cells (wCases.flatMap wcC).toArray 40) := ⟨_, rfl⟩
  have hgW : Grw _ W := hW ▸ hg.alloc _
  rw [← hW] at e0 e1 e2 e3 e4 e5 hbl ⊢
  have HGW := Lib.hid hgW
  clear hc hg hW HGW
  obtain ⟨xh, xd, rfl⟩ := hgW
  generalize w1.heap.size = b1 at *
  go_wp2
  exact bodyPost_ret (v := .tuple #[.agg #[.string (bs x.text), .string (bs x.mended), .int .i64 x.mode, .int .i64 x.err, .int .i64 x.end_, .int .i64 x.fault], .bool true]) (by simp [results, Try.results14, go_sem]) rfl ⟨rfl, by first | exact Grw.refl _ | (repeat (first | exact Grw.refl _ | apply Grw.ext | apply Grw.alloc | apply Grw.drewN | apply Grw.drew)); done⟩
set_option maxHeartbeats 2000000 in
set_option maxRecDepth 100000 in
theorem wOf_out (i : Int) (w : World) (hi : i < 0 ∨ 6 ≤ i) : Calls Try.prog 14 #[.int .i64 i] w fun e w' => e = .returned (.tuple #[wcV wZero, .bool false]) ∧ Grw w w' := by
  have hcs : decide (i < 0) = true ∨ (decide (i < 0) = false ∧ decide (6 ≤ i) = true) := by simp; omega
  clear hi
  rcases hcs with h1 | ⟨h1, h2⟩
  all_goals
    go_enter Try.func14, Try.ntmps14
    go_wp2_with fail
    refine (wCases_any _).mono ?_
    rintro e w' ⟨w1, hg, rfl, rfl⟩
    obtain ⟨xh, xd, hW⟩ := hg.alloc (.cells (wCases.flatMap wcC).toArray 40)
    rw [hW]
    clear hg hW
    generalize w1.heap.size = b1 at *
    go_wp2
    exact bodyPost_ret (v := .tuple #[.agg #[.string ⟨#[]⟩, .string ⟨#[]⟩, .int .i64 0, .int .i64 0, .int .i64 0, .int .i64 0], .bool false]) (by simp [results, Try.results14, go_sem]) rfl ⟨rfl, by first | exact Grw.refl _ | (repeat (first | exact Grw.refl _ | apply Grw.ext | apply Grw.alloc | apply Grw.drewN | apply Grw.drew)); done⟩
end Go.Proofs.YtnindeoemfgkeaaRRRR
