/- Chapter 45's example: what is wild, and a way. Conditions: none. -/
import Derived.Test.YtgjpbhgobjlneaaPath10
import Derived.Test.YtgjpbhgobjlneaaPath11
namespace Go.Proofs.Ytgjpbhgobjlneaa
open Go.RowKit Go.Sort
theorem SlB.of_block {α : Type} {enc : α → List Value} {sz : Nat} {w : World} {b : Nat} {t : TypeId} {xs : List α} (hen : ∀ x, (enc x).length = sz) (h : w.heap[b]? = some (.cells (xs.flatMap enc).toArray t)) {B : Nat} (hB : b < B) : SlB enc sz w B (some ⟨b, 0, none⟩) xs := by
  have hb : b < w.heap.size := (Array.getElem?_eq_some_iff.1 h).1
  refine .inr ⟨b, 0, rfl, hB, hb, fun i x hx j u hu => ?_⟩
  have := flatMap_get hen xs i x hx j u hu
  simp only [World.cell?, h]
  simpa using this
def ex3 (A : Option Addr) (fc : Nat) : List Cl := [⟨[], 0, 0, 0, 0, none, 0, [], false⟩, ⟨[], 1, 0, 0, 0, none, 0, [], false⟩, ⟨[], 0, 0, 0, 0, A, fc, [(true, 2)], false⟩]
theorem sortL_short {xs : List Int} (h : xs.length ≤ 1) : sortL xs = xs := by
  match xs, h with
  | [], _ => simp [sortL]
  | [a], _ => simp [sortL]
theorem namesL_le {l : List Cl} {n : Nat} (h : ∀ c ∈ l, c.fl.length ≤ n) (a : Int) : (namesL l a).length ≤ n := by
  unfold namesL
  split
  · rename_i x hx
    split
    · simp
    · unfold pickF
      rw [List.length_map]
      exact Nat.le_trans (List.length_filter_le _ _) (h x (List.mem_of_getElem? (clAt_some hx).2.2))
  · simp
theorem ex3_names (A : Option Addr) (fc : Nat) : sNamesL (ex3 A fc) = namesL (ex3 A fc) := by
  funext a
  refine sortL_short (namesL_le (n := 1) (fun c hc => ?_) a)
  simp [ex3] at hc
  rcases hc with rfl | rfl | rfl <;> simp
theorem ex3_way (A : Option Addr) (fc : Nat) : wayL (ex3 A fc) 2 1 = [3, 2] := by
  unfold wayL
  rw [ex3_names]
  rfl
theorem contains_sort (xs : List Int) (a : Int) : (sortL xs).contains a = xs.contains a := by
  rw [Bool.eq_iff_iff]; simp [sortL_mem]
theorem ex3_wild (A : Option Addr) (fc : Nat) : wildL (ex3 A fc) = [2] := by
  have h : ∀ k x, wildB (ex3 A fc) k x = (!x.dead && decide (0 < x.o0) && ((spreadL (ex3 A fc) (rootsL (ex3 A fc)) x.o0 (namesL (ex3 A fc))).map (·.1)).contains ((k : Int) + 1)) := fun k x => by
    unfold wildB RL reachL; rw [contains_sort]
  unfold wildL
  rw [show wildTo (ex3 A fc) 0 (ex3 A fc) = wildTo (ex3 A fc) 0 [⟨[], 0, 0, 0, 0, none, 0, [], false⟩, ⟨[], 1, 0, 0, 0, none, 0, [], false⟩, ⟨[], 0, 0, 0, 0, A, fc, [(true, 2)], false⟩] from rfl]
  simp only [wildTo, h]
  rfl
set_option maxRecDepth 100000 in
set_option maxHeartbeats 2000000 in
theorem awake45 (w : World) : Calls Try.prog 16 #[] w fun e w' => e = .returned (.bool true) ∧ Grw w w' := by
  go_enter Try.func16, Try.ntmps16
  go_wp2_with fail
  obtain ⟨E, hE⟩ : ∃ E, ex3 (some ⟨w.heap.size, 0, none⟩) 1 = E := ⟨_, rfl⟩
  obtain ⟨W0, hW0⟩ : ∃ W0, (w.alloc (.cells #[.bool true, .int .i64 2] 32)).alloc (.cells (E.flatMap Cl.cells).toArray 53) = W0 := ⟨_, rfl⟩
  have HP0 : Hid (Hp W0 (w.heap.size + 2) (some ⟨w.heap.size + 1, 0, none⟩) E) := Lib.hid (by
    rw [← hW0]
    refine ⟨SlB.of_block (enc := Cl.cells) (sz := 7) (t := 53) (fun _ => rfl) (block_alloc _ _ _ (by simp)) (by omega), fun c hc => ?_⟩
    rw [← hE] at hc
    simp [ex3] at hc
    rcases hc with rfl | rfl | rfl
    · exact ⟨.nil, by simp⟩
    · exact ⟨.nil, by simp⟩
    · refine ⟨SlB.of_block (enc := valC) (sz := 2) (t := 32) (fun _ => rfl) ((Below.heap_alloc _ _ _ (by simp)).trans (block_alloc _ _ _ rfl)) (by omega), by simp⟩)
  have HGW := Lib.hid (show Grw w W0 by rw [← hW0]; exact ((Grw.refl w).alloc _).alloc _)
  have HO : Hid (∀ c ∈ E, (Lit.int .i64 c.o0).wf = true) := Lib.hid (by
    rw [← hE]; intro c hc
    simp [ex3] at hc
    rcases hc with rfl | rfl | rfl <;> rfl)
  have HL3 := Lib.hid (show E.length = 3 by rw [← hE]; rfl)
  have HWI := Lib.hid (show wildL E = [2] by rw [← hE]; exact ex3_wild _ _)
  have HWA := Lib.hid (show wayL E 2 1 = [3, 2] by rw [← hE]; exact ex3_way _ _)
  have hrw : (w.alloc (.cells #[.bool true, .int .i64 2] 32)).alloc (.cells #[.string ⟨#[]⟩, .int .i64 0, .int .i64 0, .int .i64 0, .int .i64 0, .slice none 0 0, .bool false, .string ⟨#[]⟩, .int .i64 1, .int .i64 0, .int .i64 0, .int .i64 0, .slice none 0 0, .bool false, .string ⟨#[]⟩, .int .i64 0, .int .i64 0, .int .i64 0, .int .i64 0, .slice (some ⟨w.heap.size, 0, none⟩) 1 1, .bool false] 53) = W0 := by rw [← hW0, ← hE]; rfl
  have CW : Hid (Calls Try.prog 26 #[.slice (some ⟨w.heap.size + 1, 0, none⟩) 3 3] W0 (IntsPost [2] W0)) := Lib.hid (by
    have := pWild_any E (some ⟨w.heap.size + 1, 0, none⟩) 3 _ W0 HP0.out (by rw [HL3.out]; decide) HO.out
    rw [HL3.out, HWI.out] at this
    exact this)
  have CA : Hid (∀ w2, Grw W0 w2 → Calls Try.prog 24 #[.slice (some ⟨w.heap.size + 1, 0, none⟩) 3 3, .int .i64 2, .int .i64 1] w2 (IntsPost [3, 2] w2)) := Lib.hid fun w2 hg => (by
    have := pWay_any E (some ⟨w.heap.size + 1, 0, none⟩) 3 _ w2 2 1 (HP0.out.grw hg) (by rw [HL3.out]; decide) rfl
    rw [HL3.out, HWA.out] at this
    exact this)
  rw [hrw]
  clear hW0 hrw hE HP0 HO HL3 HWI HWA
  refine CW.out.mono ?_
  rintro e w1 ⟨A1, c1, rfl, hg1, ho1⟩
  have HG1 := Lib.hid hg1
  have HO1 := Lib.hid (own_slb (xs := [2]) ho1)
  clear hg1 ho1 CW
  simp only [List.length_cons, List.length_nil]
  go_wp2_with fail
  refine (l45same_any [2] [2] A1 (some ⟨w1.heap.size, 0, none⟩) c1 1 _ _ _ (HO1.out.alloc _) (own_slb (xs := [2]) (World.ownsRow_lit (base := 0) w1 #[.int .i64 2] 1 (Nat.zero_le _) (by decide) rfl)) (by decide)).mono ?_
  rintro e w2 ⟨rfl, hg2⟩
  have HG2 := Lib.hid (HG1.out.trans (((Grw.refl w1).alloc _).trans hg2))
  clear hg2
  rw [show (([2] : List Int) == [2]) = true from rfl]
  go_wp2_with fail
  refine (CA.out w2 HG2.out).mono ?_
  rintro e w3 ⟨A3, c3, rfl, hg3, ho3⟩
  have HG3 := Lib.hid hg3
  have HO3 := Lib.hid (own_slb (xs := [3, 2]) ho3)
  clear hg3 ho3 CA
  simp only [List.length_cons, List.length_nil]
  go_wp2_with fail
  refine (l45same_any [3, 2] [3, 2] A3 (some ⟨w3.heap.size, 0, none⟩) c3 2 _ _ _ (HO3.out.alloc _) (own_slb (xs := [3, 2]) (World.ownsRow_lit (base := 0) w3 #[.int .i64 3, .int .i64 2] 2 (Nat.zero_le _) (by decide) rfl)) (by decide)).mono ?_
  rintro e w4 ⟨rfl, hg4⟩
  have HG4 := Lib.hid (HGW.out.trans (HG2.out.trans (HG3.out.trans (((Grw.refl w3).alloc _).trans hg4))))
  clear hg4
  rw [show (([3, 2] : List Int) == [3, 2]) = true from rfl]
  go_wp2
  go_ret
  exact ⟨rfl, HG4.out⟩
end Go.Proofs.Ytgjpbhgobjlneaa
