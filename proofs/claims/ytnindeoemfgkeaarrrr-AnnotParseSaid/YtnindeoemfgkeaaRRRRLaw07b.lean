/- Chapter 7's example is true. -/
import Derived.Test.YtnindeoemfgkeaaRRRRLaw07a
namespace Go.Proofs.YtnindeoemfgkeaaRRRR
open Go.RowKit
theorem anVar_any (toks : List Tok) (ps : List (List UInt8)) (A PA : Option Addr) (c pc : Nat) (at_ : Int) (w : World) (hi : In toks ps A PA w) (ha : I64 at_) :
    Calls Try.prog 41 #[.slice A toks.length c, .int .i64 at_, .slice PA ps.length pc] w (VarPost toks ps at_ w) := by
  cases hv : isW (tokAt toks at_) [118, 111, 105, 100]
  · exact anVar_more toks ps A PA c pc at_ w hi ha hv
  · exact anVar_void toks ps A PA c pc at_ w hi ha hv
theorem of_lit (s : List UInt8) (hs : s.length ≤ 1000000) (toks : List Tok) (h : tokOf s = (toks, 0, 0)) (w : World) :
    Calls Try.prog 18 #[.string (bs s)] w fun e w' => ∃ A c, e = .returned (.tuple #[.slice A toks.length c, .agg #[.int .i64 0, .int .i64 0]]) ∧ Grw w w' ∧ SlB Tok.cells 3 w' w'.heap.size A toks :=
  (r03Of_any (bs s) w (by rw [bs_size]; omega)).mono fun e w' hq => by
    obtain ⟨A, c, rfl, g, hown⟩ := hq
    rw [bs_data, h] at *
    exact ⟨A, c, rfl, g, (Sl.of_own Tok.len (by decide) hown).toB (Nat.le_refl _)⟩
theorem SlB.up {α : Type} {enc : α → List Value} {sz B B' : Nat} {w : World} {A : Option Addr} {xs : List α} (h : SlB enc sz w B A xs) (hB : B ≤ B') : SlB enc sz w B' A xs := by
  rcases h with h | ⟨b, o, h1, h2, h3⟩
  · exact .inl h
  · exact .inr ⟨b, o, h1, by omega, h3⟩
def tk1 : List Tok := [⟨1, [100, 97, 116, 97], 0⟩, ⟨1, [73, 116, 101, 109], 5⟩, ⟨1, [120], 10⟩, ⟨0, [], 11⟩]
def tk2 : List Tok := [⟨1, [73, 116, 101, 109], 0⟩, ⟨1, [120], 5⟩, ⟨0, [], 6⟩]
theorem var1 (A PA : Option Addr) (c : Nat) (w : World) (hl : SlB Tok.cells 3 w w.heap.size A tk1) (hp : SlB strC 1 w w.heap.size PA [[100, 97, 116, 97]]) :
    Calls Try.prog 41 #[.slice A 4 c, .int .i64 0, .slice PA 1 1] w fun e w' => e = .returned (.tuple #[.agg #[.string ⟨#[120]⟩, .int .i64 2, .string ⟨#[73, 116, 101, 109]⟩, .int .i64 0, .int .i64 3, .int .i64 1, .int .i64 0, .int .i64 0, .int .i64 0, .int .i64 0, .int .i64 0, .int .i64 0, .int .i64 0], .int .i64 3, .agg #[.int .i64 0, .int .i64 0]]) ∧ Grw w w' := by
  have := anVar_any tk1 [[100, 97, 116, 97]] A PA c 1 0 w ⟨hl, hp, by decide, by decide⟩ (by unfold I64; omega)
  refine this.mono fun e w' h => ?_
  obtain ⟨h1, h2⟩ := h
  rw [show varL tk1 [[100, 97, 116, 97]] 0 = _ from ex3] at h1
  exact ⟨h1, h2⟩
theorem var2 (A PA : Option Addr) (c : Nat) (w : World) (hl : SlB Tok.cells 3 w w.heap.size A tk2) :
    Calls Try.prog 41 #[.slice A 3 c, .int .i64 0, .slice PA 0 0] w fun e w' => e = .returned (.tuple #[.agg #[.string ⟨#[120]⟩, .int .i64 2, .string ⟨#[73, 116, 101, 109]⟩, .int .i64 0, .int .i64 7, .int .i64 0, .int .i64 0, .int .i64 0, .int .i64 0, .int .i64 0, .int .i64 0, .int .i64 0, .int .i64 0], .int .i64 2, .agg #[.int .i64 0, .int .i64 0]]) ∧ Grw w w' := by
  have := anVar_any tk2 [] A PA c 0 0 w ⟨hl, .inl rfl, by decide, by decide⟩ (by unfold I64; omega)
  refine this.mono fun e w' h => ?_
  obtain ⟨h1, h2⟩ := h
  rw [show varL tk2 [] 0 = _ from ex4] at h1
  exact ⟨h1, h2⟩
theorem one_str (w : World) (n : Nat) (s : List UInt8) (t : TypeId) (hn : n = w.heap.size) : SlB strC 1 (w.alloc (.cells #[.string (bs s)] t)) (w.alloc (.cells #[.string (bs s)] t)).heap.size (some ⟨n, 0, none⟩) [s] := by
  refine .inr ⟨_, 0, rfl, by simp; omega, by simp; omega, ?_⟩
  intro i x hx j u hu
  match i, hx with
  | 0, hx =>
    simp at hx; subst hx
    match j, hu with
    | 0, hu =>
      simp [strC] at hu; subst hu
      rw [World.cell?_alloc_at _ _ _ _ hn]; rfl
theorem of1 (w : World) : Calls Try.prog 18 #[.string ⟨#[100, 97, 116, 97, 32, 73, 116, 101, 109, 32, 120]⟩] w fun e w' => ∃ A c, e = .returned (.tuple #[.slice A 4 c, .agg #[.int .i64 0, .int .i64 0]]) ∧ Grw w w' ∧ SlB Tok.cells 3 w' w'.heap.size A tk1 :=
  of_lit [100, 97, 116, 97, 32, 73, 116, 101, 109, 32, 120] (by decide) tk1 ex1 w
theorem of2 (w : World) : Calls Try.prog 18 #[.string ⟨#[73, 116, 101, 109, 32, 120]⟩] w fun e w' => ∃ A c, e = .returned (.tuple #[.slice A 3 c, .agg #[.int .i64 0, .int .i64 0]]) ∧ Grw w w' ∧ SlB Tok.cells 3 w' w'.heap.size A tk2 :=
  of_lit [73, 116, 101, 109, 32, 120] (by decide) tk2 ex2 w
set_option maxRecDepth 100000 in
set_option maxHeartbeats 1000000 in
theorem awake07 (w : World) : Calls Try.prog 19 #[] w fun e w' => e = .returned (.bool true) ∧ Grw w w' := by
  go_enter Try.func19, Try.ntmps19
  go_wp2_with fail
  refine (of1 _).mono ?_
  rintro e w' ⟨A1, c1, rfl, ⟨h1, d1, rfl⟩, hs1⟩
  go_wp2_with fail
  refine (of2 _).mono ?_
  rintro e w' ⟨A2, c2, rfl, ⟨h2, d2, rfl⟩, hs2⟩
  go_wp2_with fail
  trace "1"
  refine (var1 _ _ _ _ ?p1 ?p2).mono ?_
  trace "2"
  case p1 => exact ((((hs1.alloc _).ext _ _).alloc _).alloc _).up (by simp [wext_size]; omega)
  case p2 => exact one_str _ _ [100, 97, 116, 97] _ (by simp [wext_size])
  rintro e w' ⟨rfl, h3, d3, rfl⟩
  trace "3"
  go_wp2_with fail
  refine (var2 _ _ _ _ ?q1).mono ?_
  case q1 => exact ((((((hs2.alloc _).alloc _).ext _ _).alloc _).alloc _)).up (by simp [wext_size]; omega)
  rintro e w' ⟨rfl, h4, d4, rfl⟩
  trace "4"
  clear hs1 hs2
  go_wp2
  go_ret
  exact ⟨rfl, by first | exact Grw.refl _ | (repeat (first | exact Grw.refl _ | apply Grw.ext | apply Grw.alloc | apply Grw.drewN | apply Grw.drew)); done⟩
end Go.Proofs.YtnindeoemfgkeaaRRRR
