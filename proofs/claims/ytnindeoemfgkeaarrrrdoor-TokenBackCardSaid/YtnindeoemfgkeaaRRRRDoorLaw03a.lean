/- Chapter 3's example is true; the law TokenOf: token.Of answers as the document's answer does, at any text. -/
import Derived.Test.YtnindeoemfgkeaaRRRRDoorTok4
namespace Go.Proofs.YtnindeoemfgkeaaRRRRDoor
open Go.RowKit
theorem tokF_len03 : ∀ (f a : Nat) (l : List UInt8) (acc : List Tok), (tokF f a l acc).1.length ≤ acc.length + f
  | 0, _, _, acc => Nat.le_refl _
  | f + 1, a, l, acc => by
    unfold tokF
    split
    · simp
    · split
      · simp
      · split
        · simp
        · have := tokF_len03 f (a + (oneL l).2.length + sk false (l.drop (oneL l).2.length)) ((l.drop (oneL l).2.length).drop (sk false (l.drop (oneL l).2.length))) (acc ++ [⟨(oneL l).1, (oneL l).2, a⟩])
          simp at this ⊢
          omega
theorem tokOf_len03 (l : List UInt8) : (tokOf l).1.length ≤ 1000000 := by
  unfold tokOf
  split
  · simp
  · have := tokF_len03 (l.length + 1) (sk false l) (l.drop (sk false l)) []
    simp only [List.length_nil] at this
    omega
theorem SlB.upT {α : Type} {enc : α → List Value} {sz B B' : Nat} {w : World} {A : Option Addr} {xs : List α} (h : SlB enc sz w B A xs) (hB : B ≤ B') : SlB enc sz w B' A xs := by
  rcases h with h | ⟨b, o, h1, h2, h3⟩
  · exact .inl h
  · exact .inr ⟨b, o, h1, by omega, h3⟩
theorem ex03 : tokOf [97, 61, 61, 98, 32, 47, 47, 32, 99] = ([⟨1, [97], 0⟩, ⟨4, [61, 61], 1⟩, ⟨1, [98], 3⟩, ⟨0, [], 9⟩], 0, 0) := by kernel_rfl
def tk03 : List Tok := [⟨1, [97], 0⟩, ⟨4, [61, 61], 1⟩, ⟨1, [98], 3⟩, ⟨0, [], 9⟩]
theorem of03 (w : World) (hw : Wd w) : Calls Tryd.prog 7 #[.string ⟨#[97, 61, 61, 98, 32, 47, 47, 32, 99]⟩] w fun e w' => ∃ g c, e = .returned (.tuple #[.slice (some ⟨g, 0, none⟩) 4 c, .agg #[.int .i64 0, .int .i64 0]]) ∧ Grw w w' ∧ g < w'.heap.size ∧
    w'.cell? ⟨g, 4, none⟩ = some (.string ⟨#[61, 61]⟩) ∧ w'.cell? ⟨g, 5, none⟩ = some (.int .i64 1) ∧ w'.cell? ⟨g, 8, none⟩ = some (.int .i64 3) ∧ w'.cell? ⟨g, 11, none⟩ = some (.int .i64 9) :=
  (tOf_any (bs [97, 61, 61, 98, 32, 47, 47, 32, 99]) w hw (by decide)).mono fun e w' hq => by
    obtain ⟨A, c, rfl, g, hown⟩ := hq
    rw [bs_data, ex03] at *
    obtain ⟨gg, cap, hv, _, _⟩ := hown.form (by decide)
    injection hv with hA hc hcap
    subst hA
    have h1 := hown.cellAt 4 (by decide)
    have h2 := hown.cellAt 5 (by decide)
    have h3 := hown.cellAt 8 (by decide)
    have h4 := hown.cellAt 11 (by decide)
    exact ⟨gg, c, rfl, g, (hown.lt gg rfl).2, h1, h2, h3, h4⟩
set_option maxHeartbeats 1000000 in
theorem awake03 (w : World) (hw : Wd w) : Calls Tryd.prog 6 #[] w fun e w' => e = .returned (.bool true) ∧ Grw w w' := by
  go_enter Tryd.func6, Tryd.ntmps6
  go_wp2_with (go_at_call 7; refine (of03 _ hw).mono ?_; rintro e w1 ⟨g, c, rfl, hgr, hg, k1, k2, k3, k4⟩)
  go_ret
  exact ⟨rfl, hgr.alloc _⟩
set_option maxHeartbeats 2000000 in
set_option maxRecDepth 100000 in
theorem law03Of (s : ByteArray) (w : World) (hw : Wd w) (hs : s.size ≤ 9223372036854775807) : Calls Tryd.prog 3 #[.string s] w fun e w' => e = .returned (.bool true) ∧ Grw w w' := by
  by_cases hbig : 400 < s.size
  · have f1 : (400 : Int) < (s.size : Int) := by omega
    go_enter Tryd.func3, Tryd.ntmps3
    go_wp2_with (go_at_call 6; refine (awake03 _ hw).mono ?_; rintro e w1 ⟨rfl, hq⟩)
    go_ret
    exact ⟨rfl, hq⟩
  have f1 : (s.size : Int) ≤ 400 := by omega
  have hlen := tokOf_len03 s.data.toList
  obtain ⟨toks, fe, fa, hT⟩ : ∃ toks fe fa, tokOf s.data.toList = (toks, fe, fa) := ⟨_, _, _, rfl⟩
  have HT := Lib.hid hT
  rw [hT] at hlen
  dsimp only at hlen
  clear hT
  go_enter Tryd.func3, Tryd.ntmps3
  go_wp2_with fail
  refine (tOf_any s _ hw hs).mono ?_
  unfold OfPost
  rw [HT.out]
  rintro e w' ⟨A, c, rfl, ⟨xh, xd, rfl⟩, hown⟩
  have hl := (Sl.of_own Tok.len (by decide) hown).toB (Nat.le_refl _)
  clear hown
  dsimp only at hl ⊢
  go_wp2_with fail
  refine (r03Of_any s _ hs).mono ?_
  unfold OfPost
  rw [HT.out]
  rintro e w' ⟨A2, c2, rfl, ⟨yh, yd, rfl⟩, hown⟩
  have hl2 := (Sl.of_own Tok.len (by decide) hown).toB (Nat.le_refl _)
  clear hown
  dsimp only at hl2 ⊢
  go_wp2_with fail
  go_loopw [7] (fun i wr => ∃ k B : Nat, k ≤ toks.length ∧ i = .int .i64 k ∧ SlB Tok.cells 3 wr B A toks ∧ SlB Tok.cells 3 wr B A2 toks ∧ Grw w wr) (fun i _ => toks.length - (intOf i).toNat)
  case atStart => exact ⟨0, _, Nat.zero_le _, rfl, SlB.upT (by repeat (first | exact hl | apply SlB.alloc | apply SlB.ext | apply SlB.drewN)) (Nat.le_max_left _ _), SlB.upT (by repeat (first | exact hl2 | apply SlB.alloc | apply SlB.ext | apply SlB.drewN)) (Nat.le_max_right _ _), by first | exact Grw.refl _ | (repeat (first | exact Grw.refl _ | apply Grw.ext | apply Grw.alloc | apply Grw.drewN | apply Grw.drew)); done⟩
  case round =>
    obtain ⟨k, B, hk, rfl, hb2, hb3, hg⟩ := hrel
    by_cases hlt : k < toks.length
    · obtain ⟨o, hx⟩ : ∃ o, toks[k]? = some o := ⟨_, List.getElem?_eq_getElem hlt⟩
      obtain ⟨b, ob, rfl, _, hbl, hc⟩ := hb2.at_ hx
      obtain ⟨b', ob', rfl, _, hbl', hc'⟩ := hb3.at_ hx
      have e0 := hc 0 _ rfl
      have e1 := hc 1 _ rfl
      have e2 := hc 2 _ rfl
      have d0 := hc' 0 _ rfl
      have d1 := hc' 1 _ rfl
      have d2 := hc' 2 _ rfl
      simp only [Nat.add_zero] at e0 d0
      have f3 : (k : Int) < (toks.length : Int) := by omega
      have HG := Lib.hid hg
      have HB2 := Lib.hid hb2
      have HB3 := Lib.hid hb3
      clear hc hc' hg hb2 hb3 hx
      go_wp2
      go_quiet (fail)
      go_wp2
      go_roundw
      case rel => exact ⟨k + 1, B, by omega, by go_num, HB2.out.drewN _, HB3.out.drewN _, HG.out.drewN _⟩
      case measure => simp [intOf]; omega
    · obtain rfl : k = toks.length := by omega
      clear hb2 hb3
      go_wp2_with (go_at_call 6; refine (awake03 _ (hw.grw hg)).mono ?_; rintro e w' ⟨rfl, hq⟩)
      go_ret
      exact ⟨rfl, hg.trans hq⟩
end Go.Proofs.YtnindeoemfgkeaaRRRRDoor
