/- Chapter 44's example and the law IsoMatch. Conditions: none. -/
import Derived.Test.YtgjpbhgobjlneaaIso8
namespace Go.Proofs.Ytgjpbhgobjlneaa
open Go.RowKit
theorem SlB.of_block {α : Type} {enc : α → List Value} {sz : Nat} {w : World} {b : Nat} {t : TypeId} {xs : List α} (hen : ∀ x, (enc x).length = sz) (h : w.heap[b]? = some (.cells (xs.flatMap enc).toArray t)) {B : Nat} (hB : b < B) : SlB enc sz w B (some ⟨b, 0, none⟩) xs := by
  have hb : b < w.heap.size := (Array.getElem?_eq_some_iff.1 h).1
  refine .inr ⟨b, 0, rfl, hB, hb, fun i x hx j u hu => ?_⟩
  have := flatMap_get hen xs i x hx j u hu
  simp only [World.cell?, h]
  simpa using this
theorem SlB.lift {α : Type} {enc : α → List Value} {sz B : Nat} {w : World} {A : Option Addr} {xs : List α} (h : SlB enc sz w B A xs) : SlB enc sz w w.heap.size A xs := by
  rcases h with h | ⟨b, o, hA, _, hl, hc⟩
  · exact .inl h
  · exact .inr ⟨b, o, hA, hl, hl, hc⟩
theorem SlB.lift' {α : Type} {enc : α → List Value} {sz B B' : Nat} {w : World} {A : Option Addr} {xs : List α} (h : SlB enc sz w B A xs) (hB : w.heap.size ≤ B') : SlB enc sz w B' A xs := by
  rcases h with h | ⟨b, o, hA, _, hl, hc⟩
  · exact .inl h
  · exact .inr ⟨b, o, hA, by omega, hl, hc⟩
def exA : Ev := ⟨4, 2, 0, [], true, 3, 0, 0, 0, 0⟩
def exB : Ev := ⟨4, 5, 0, [], true, 4, 0, 0, 0, 0⟩
theorem exM : matchL [exA] [exB] = some [(2, 5), (3, 4)] := by decide
theorem exA_ok : ∀ e ∈ [exA], e.ok := by
  intro e he; rw [List.mem_singleton] at he; subst he
  unfold Ev.ok; decide
theorem exB_ok : ∀ e ∈ [exB], e.ok := by
  intro e he; rw [List.mem_singleton] at he; subst he
  unfold Ev.ok; decide
set_option maxRecDepth 100000 in
set_option maxHeartbeats 1000000 in
theorem awake44 (w : World) : Calls Try.prog 9 #[] w fun e w' => e = .returned (.bool true) ∧ Grw w w' := by
  go_enter Try.func9, Try.ntmps9
  go_wp2_with fail
  refine (iMatch_any [exA] [exB] (some ⟨w.heap.size + 1 + 1, 0, none⟩) (some ⟨w.heap.size + 1 + 1 + 1, 0, none⟩) 1 1 _ ?s1 ?s2 exA_ok exB_ok (by decide)).mono ?_
  case s1 =>
    refine SlB.of_block (enc := Ev.cells) (sz := 10) (t := 35) (fun _ => rfl) ?_ ?_
    · refine (Below.heap_alloc _ _ _ ?_).trans (block_alloc _ _ _ ?_)
      · simp
      · simp
    · simp
  case s2 =>
    refine SlB.of_block (enc := Ev.cells) (sz := 10) (t := 35) (fun _ => rfl) ?_ ?_
    · refine block_alloc _ _ _ ?_
      simp
    · simp
  rintro e w1 ⟨A, c, rfl, hg, how⟩
  rw [exM] at how ⊢
  have HG : Hid (Grw w w1) := Lib.hid (Grw.trans (by repeat (first | exact Grw.refl w | apply Grw.ext | apply Grw.alloc | apply Grw.drewN | apply Grw.drew)) hg)
  have HS := Lib.hid (SlB.lift ((Sl.of_own (enc := pairC) (fun _ => rfl) (by omega) how).toB (Nat.le_refl _)))
  clear hg how
  simp only [Option.getD_some, List.length_cons, List.length_nil, Option.isSome_some]
  go_wp2_with fail
  refine (l44same_any [(2, 5), (3, 4)] [(2, 5), (3, 4)] A (some ⟨w1.heap.size, 0, none⟩) c 2 (w1.heap.size + 1) _ ?_ ?_ (by decide) (by decide)).mono ?_
  · exact SlB.lift' (HS.out.alloc _) (by simp)
  · refine SlB.of_block (enc := pairC) (sz := 2) (t := 29) (fun _ => rfl) ?_ ?_
    · exact block_alloc _ _ _ rfl
    · omega
  rintro e w2 ⟨rfl, hq⟩
  go_wp2
  go_ret
  exact ⟨rfl, Grw.trans HG.out (Grw.trans ((Grw.refl _).alloc _) hq)⟩
section
variable (a b : List Ev) (A1 A2 : Option Addr) (c1 c2 : Nat) (w : World)
set_option maxRecDepth 100000 in
set_option maxHeartbeats 1000000 in
theorem law44Match_far (h : 100 < a.length ∨ 100 < b.length) (hn : a.length ≤ 9223372036854775807) (hm : b.length ≤ 9223372036854775807) : Calls Try.prog 3 #[.slice A1 a.length c1, .slice A2 b.length c2] w fun e w' => e = .returned (.bool true) ∧ Grw w w' := by
  have hcs : (100 : Int) < (a.length : Int) ∨ ((a.length : Int) ≤ 100 ∧ (100 : Int) < (b.length : Int)) := by omega
  clear h
  rcases hcs with h1 | ⟨h1, h2⟩
  all_goals
    go_enter Try.func3, Try.ntmps3
    go_wp2_with (go_at_call 9; refine (awake44 _).mono ?_; rintro e w1 ⟨rfl, hq⟩)
    go_ret
    exact ⟨rfl, Grw.trans (by repeat (first | exact Grw.refl _ | apply Grw.ext | apply Grw.alloc | apply Grw.drewN | apply Grw.drew)) hq⟩
set_option maxRecDepth 100000 in
set_option maxHeartbeats 1000000 in
theorem law44Match_near (hn : a.length ≤ 100) (hm : b.length ≤ 100) (h1 : SlB Ev.cells 10 w w.heap.size A1 a) (h2 : SlB Ev.cells 10 w w.heap.size A2 b) (hok : ∀ e ∈ a, e.ok) (hok2 : ∀ e ∈ b, e.ok) :
    Calls Try.prog 3 #[.slice A1 a.length c1, .slice A2 b.length c2] w fun e w' => e = .returned (.bool true) ∧ Grw w w' := by
  have f1 : (a.length : Int) ≤ 100 := by omega
  have f2 : (b.length : Int) ≤ 100 := by omega
  have H1 := Lib.hid h1
  have H2 := Lib.hid h2
  have HO1 := Lib.hid hok
  have HO2 := Lib.hid hok2
  clear h1 h2 hok hok2
  go_enter Try.func3, Try.ntmps3
  go_wp2_with fail
  refine (iMatch_any a b A1 A2 c1 c2 _ H1.out H2.out HO1.out HO2.out hn).mono ?_
  rintro e w1 ⟨A3, c3, rfl, hg, how⟩
  have HG := Lib.hid hg
  have HS := Lib.hid (SlB.lift ((Sl.of_own (enc := pairC) (fun _ => rfl) (by omega) how).toB (Nat.le_refl _)))
  clear hg how
  go_wp2_with fail
  refine (r44Match_any a b A1 A2 c1 c2 _ (SlB.lift (H1.out.grw HG.out)) (SlB.lift (H2.out.grw HG.out)) hn).mono ?_
  rintro e w2 ⟨A4, c4, rfl, hg2, how2⟩
  have HS3 := Lib.hid (SlB.lift (HS.out.grw hg2))
  have HS2 := Lib.hid (SlB.lift ((Sl.of_own (enc := pairC) (fun _ => rfl) (by omega) how2).toB (Nat.le_refl _)))
  have HG2 := Lib.hid (Grw.trans HG.out hg2)
  have HN : Hid (((matchL a b).getD []).length ≤ 1000000) := Lib.hid (by
    unfold matchL
    split
    · cases h : foldE [] (a.zip b) with
      | none => simp
      | some qs => have := foldE_len h; rw [List.length_zip] at this; simp at this ⊢; omega
    · simp)
  clear hg2 how2 HS
  generalize ((matchL a b).getD []) = ms at *
  generalize (matchL a b).isSome = is at *
  cases is
  all_goals
    go_wp2_with (first
      | (go_at_call 12; refine (l44same_any ms ms A3 A4 c3 c4 _ _ HS3.out HS2.out HN.out HN.out).mono ?_; rw [sameP_self]; rintro e w3 ⟨rfl, hq3⟩)
      | (go_at_call 9; refine (awake44 _).mono ?_; rintro e w4 ⟨rfl, hq4⟩))
    go_ret
    exact ⟨rfl, Grw.trans HG2.out (Grw.trans hq3 hq4)⟩
end
end Go.Proofs.Ytgjpbhgobjlneaa
