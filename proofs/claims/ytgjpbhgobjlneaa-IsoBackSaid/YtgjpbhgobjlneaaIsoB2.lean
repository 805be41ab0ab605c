/- Contracts of iso.Apply (plain) and iso.Turn. Conditions: few pairs. -/
import Derived.Test.YtgjpbhgobjlneaaIsoB1
namespace Go.Proofs.Ytgjpbhgobjlneaa
open Go.RowKit
theorem apply_any (m : List (Int × Int)) (A : Option Addr) (c : Nat) (e : Ev) (w : World) (hm : SlB pairC 2 w w.heap.size A m) (hok : PairsOk m) (he : e.okA) (hl : m.length ≤ 1000000) :
    Calls Try.prog 14 #[.slice A m.length c, .agg e.arr] w fun E W' => E = .returned (.tuple #[.agg (applyR m e).arr, .bool (appL m e).2]) ∧ Grw w W' :=
  (callsIn_wide (n := 3)).1 ((apply_in Fence.wide 3 trivial trivial trivial rfl (by omega) m A c e w hm hok he hl).mono fun _ _ ⟨h1, h2⟩ => ⟨h1, .of_below h2⟩)
/-- The pairs turned so far, and what is still to come. -/
def turnA (m : List (Int × Int)) (k : Nat) : Array Value := ((swapP (m.take k) ++ List.replicate (m.length - k) (0, 0)).flatMap pairC).toArray
theorem rep_flat : ∀ n : Nat, (List.replicate n ((0 : Int), (0 : Int))).flatMap pairC = List.replicate (n * 2) (.int .i64 0)
  | 0 => rfl
  | n + 1 => by rw [List.replicate_succ, List.flatMap_cons, rep_flat n, Nat.add_mul, Nat.one_mul, List.replicate_succ, List.replicate_succ]; rfl
theorem turnA_start (m : List (Int × Int)) : madeCells #[.int .i64 0, .int .i64 0] (m.length * 2) = turnA m 0 := by
  apply Array.ext'
  unfold turnA
  simp only [List.take_zero, swapP, List.map_nil, List.nil_append, Nat.sub_zero, rep_flat]
  apply List.ext_getElem?
  intro j
  by_cases hj : j < m.length * 2
  · have h2 : j % 2 = 0 ∨ j % 2 = 1 := by omega
    rcases h2 with h2 | h2 <;> simp [madeCells, hj, h2]
  · simp [madeCells, hj]
theorem turnA_len (m : List (Int × Int)) (k : Nat) (hk : k ≤ m.length) : (turnA m k).size = m.length * 2 := by
  unfold turnA
  rw [List.size_toArray, length_flatMap (sz := 2) (fun _ => rfl)]
  simp [swapP]; omega
theorem turnA_step (m : List (Int × Int)) (k : Nat) (p : Int × Int) (hp : m[k]? = some p) : ((turnA m k).setIfInBounds (k * 2) (.int .i64 p.2)).setIfInBounds (k * 2 + 1) (.int .i64 p.1) = turnA m (k + 1) := by
  have hk : k < m.length := (List.getElem?_eq_some_iff.1 hp).1
  have e1 : m.length - k = (m.length - (k + 1)) + 1 := by omega
  have hl : ((swapP (m.take k)).flatMap pairC).length = k * 2 := by rw [length_flatMap (sz := 2) (fun _ => rfl)]; simp [swapP]; omega
  apply Array.ext'
  unfold turnA
  rw [Array.toList_setIfInBounds, Array.toList_setIfInBounds]
  simp only [take_snoc' hp, e1, List.replicate_succ, List.flatMap_append, List.flatMap_cons, swapP, List.map_append]
  rw [show ((m.take k).map fun p => (p.2, p.1)) = swapP (m.take k) from rfl]
  rw [List.set_append_right _ _ (by omega), List.set_append_right _ _ (by omega), hl]
  simp [pairC]
theorem turn_round {w wr : World} {m : List (Int × Int)} {k : Nat} {p : Int × Int} (hp : m[k]? = some p) (hblk : wr.heap[w.heap.size]? = some (.cells (turnA m k) 29)) (hbw : Below w.heap.size w wr) :
    (((wr.setCell ⟨w.heap.size, k * 2, none⟩ (.int .i64 p.2)).setCell ⟨w.heap.size, k * 2 + 1, none⟩ (.int .i64 p.1)).alloc (.cells #[.int .i64 p.1, .int .i64 p.2] 29)).heap[w.heap.size]? = some (.cells (turnA m (k + 1)) 29) ∧
    Below w.heap.size w (((wr.setCell ⟨w.heap.size, k * 2, none⟩ (.int .i64 p.2)).setCell ⟨w.heap.size, k * 2 + 1, none⟩ (.int .i64 p.1)).alloc (.cells #[.int .i64 p.1, .int .i64 p.2] 29)) := by
  have h1 := setCell_block (setCell_block hblk (k * 2) (.int .i64 p.2)) (k * 2 + 1) (.int .i64 p.1)
  rw [turnA_step m k p hp] at h1
  have h2 := (hbw.setCell (p := ⟨w.heap.size, k * 2, none⟩) (Nat.le_refl _) (.int .i64 p.2)).setCell (p := ⟨w.heap.size, k * 2 + 1, none⟩) (Nat.le_refl _) (.int .i64 p.1)
  exact ⟨(Below.heap_alloc _ _ _ (Array.getElem?_eq_some_iff.1 h1).1).trans h1, h2.alloc h2.size _⟩
theorem turn_end {w wr : World} {m : List (Int × Int)} (hblk : wr.heap[w.heap.size]? = some (.cells (turnA m m.length) 29)) : SlB pairC 2 wr wr.heap.size (some ⟨w.heap.size, 0, none⟩) (swapP m) := by
  refine SlB.of_block (enc := pairC) (sz := 2) (t := 29) (fun _ => rfl) ?_ (Array.getElem?_eq_some_iff.1 hblk).1
  rw [hblk]; unfold turnA; simp
section
variable (m : List (Int × Int)) (A : Option Addr) (c : Nat) (w : World)
set_option maxRecDepth 100000 in
set_option maxHeartbeats 1000000 in
theorem turn_any (hm : SlB pairC 2 w w.heap.size A m) (hl : m.length ≤ 1000000) :
    Calls Try.prog 13 #[.slice A m.length c] w fun E W' => E = .returned (.slice (some ⟨w.heap.size, 0, none⟩) m.length m.length) ∧ Grw w W' ∧ SlB pairC 2 W' W'.heap.size (some ⟨w.heap.size, 0, none⟩) (swapP m) := by
  obtain ⟨i0, hi, hz0, hz1, hz2⟩ := info_parts info_pair
  have hmk : (Instr.makeSlice 24 (.int .i64 (m.length : Int)) (.int .i64 (m.length : Int))).run Try.prog w = .ok (.slice (some ⟨w.heap.size, 0, none⟩) m.length m.length) (w.alloc (.cells (turnA m 0) 29)) := by
    have := run_make (P := Try.prog) w 24 29 i0 _ Try.underlying24 hi hz0 .i64 .i64 m.length m.length (by omega) (Int.le_refl _) (by rw [hz2]; omega) (by omega)
    rw [Int.toNat_natCast, hz1] at this
    rw [this, ← turnA_start]; rfl
  obtain ⟨W0, hW0⟩ : ∃ W0, w.alloc (.cells (turnA m 0) 29) = W0 := ⟨_, rfl⟩
  have HB0 := Lib.hid (show W0.heap[w.heap.size]? = some (.cells (turnA m 0) 29) ∧ Below w.heap.size w W0 by rw [← hW0]; exact ⟨block_alloc w _ _ rfl, (Below.refl _ w).alloc (Nat.le_refl _) _⟩)
  rw [hW0] at hmk
  have HM := Lib.hid hm
  clear hW0 hm
  go_enter Try.func13, Try.ntmps13
  go_wp2
  clear hmk
  go_loopw [4, 5, 11] (fun _ _ i wr => ∃ k : Nat, k ≤ m.length ∧ i = .int .i64 k ∧ wr.heap[w.heap.size]? = some (.cells (turnA m k) 29) ∧ Below w.heap.size w wr) (fun _ _ i _ => m.length - (intOf i).toNat)
  case atStart => exact ⟨0, Nat.zero_le _, rfl, HB0.out.1, HB0.out.2⟩
  case round =>
    obtain ⟨k, hk, rfl, hblk, hbw⟩ := hrel
    by_cases hlt : k < m.length
    · obtain ⟨p, hp⟩ : ∃ o, m[k]? = some o := ⟨_, List.getElem?_eq_getElem hlt⟩
      obtain ⟨b1, ob, rfl, hb1, hbl, hc⟩ := (HM.out.grw (.of_below hbw)).at_ hp
      have e0 := hc 0 _ rfl
      have e1 := hc 1 _ rfl
      simp only [Nat.add_zero] at e0
      have f3 : (k : Int) < (m.length : Int) := by omega
      have hgl : w.heap.size < wr.heap.size := (Array.getElem?_eq_some_iff.1 hblk).1
      have hls := turnA_len m k hk
      obtain ⟨u0, c0⟩ : ∃ u, wr.cell? ⟨w.heap.size, k * 2, none⟩ = some u := ⟨_, by rw [cells_all hblk]; exact Array.getElem?_eq_getElem (by omega)⟩
      obtain ⟨u1, c1⟩ : ∃ u, wr.cell? ⟨w.heap.size, k * 2 + 1, none⟩ = some u := ⟨_, by rw [cells_all hblk]; exact Array.getElem?_eq_getElem (by omega)⟩
      have d0 : wr.frozen? ⟨w.heap.size, k * 2, none⟩ = false := by simp [World.frozen?, hblk]
      have d1 : wr.frozen? ⟨w.heap.size, k * 2 + 1, none⟩ = false := by simp [World.frozen?, hblk]
      have HS := Lib.hid (turn_round hp hblk hbw)
      clear hblk hbw hc hp hls
      go_wp2
      go_roundw
      case rel => first | exact ⟨k + 1, by omega, by go_num, HS.out.1, HS.out.2⟩ | ((repeat apply Exists.intro); exact ⟨⟨k + 1, by omega, by go_num, HS.out.1, HS.out.2⟩, rfl⟩)
      case measure => simp [intOf]; omega
    · obtain rfl : k = m.length := by omega
      have HF := Lib.hid (turn_end hblk)
      have HBW := Lib.hid hbw
      clear hblk hbw
      go_wp2
      go_ret
      exact ⟨rfl, .of_below HBW.out, HF.out⟩
end
end Go.Proofs.Ytgjpbhgobjlneaa
