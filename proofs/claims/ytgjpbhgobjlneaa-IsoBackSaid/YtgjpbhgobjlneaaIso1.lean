/- Contracts of iso.numbers and iso.list: an event's numbers, in order; nothing that was there is written. Conditions: none. -/
import Derived.Test.YtgjpbhgobjlneaaIso0
import Derived.RangeFuncNested
import Derived.RangeFuncBound
import Derived.RangeFuncCalls
import Derived.RangeFuncLeaves
import Derived.Shelf.Abstract
import Derived.Shelf.RegionOpen
import Derived.WalkKit
import Derived.OwnWalkIn
import Derived.TacticsInMore
import Derived.LoopNIn
import Derived.LoopIn
import Derived.Maps.AppendAt
import Derived.Test.YtgjpbhgobjlneaaProg
namespace Go.Proofs.Ytgjpbhgobjlneaa
open Go.RowKit Go.Shelf
attribute [local go_sem] Oper.semAt_some
/-- Where numbers stand in an event. -/
abbrev Off := { o : Nat // o = 1 ∨ o = 2 ∨ o = 5 ∨ o = 6 ∨ o = 7 ∨ o = 8 ∨ o = 9 }
def offR (r : Bool) : List Off :=
  [⟨1, by simp⟩, ⟨2, by simp⟩] ++ (if r then [⟨5, by simp⟩] else []) ++ [⟨6, by simp⟩, ⟨7, by simp⟩, ⟨8, by simp⟩, ⟨9, by simp⟩]
def Ev.num (e : Ev) (o : Off) : Int := match o.1 with | 1 => e.who | 2 => e.obj | 5 => e.n | 6 => e.o0 | 7 => e.o1 | 8 => e.o2 | _ => e.o3
theorem Ev.num_at (e : Ev) (o : Off) : e.cells[o.1]? = some (.int .i64 (e.num o)) := by
  obtain ⟨o, h⟩ := o
  rcases h with rfl | rfl | rfl | rfl | rfl | rfl | rfl <;> rfl
theorem Ev.offs_nums (e : Ev) : (offR e.ref).map e.num = e.nums := by
  unfold offR Ev.nums
  cases e.ref <;> rfl
/-- What the iterator reads is kept. -/
def KpE (Bn b : Nat) (r : Bool) (W W' : World) : Prop :=
  W.cell? ⟨Bn, 0, none⟩ = some (.pointer (some ⟨b, 0, none⟩)) ∧ W.cell? ⟨b, 4, none⟩ = some (.bool r) → W'.cell? ⟨Bn, 0, none⟩ = some (.pointer (some ⟨b, 0, none⟩)) ∧ W'.cell? ⟨b, 4, none⟩ = some (.bool r)
theorem KpE.trans {Bn b : Nat} {r : Bool} {A B C : World} (h : KpE Bn b r A B) (k : KpE Bn b r B C) : KpE Bn b r A C := fun x => k (h x)
theorem putObj_cell {W : World} {l b i : Nat} {o o' : Obj} {v : Value} (h : W.heap[l]? = some o) (ho : o.isCells = false) (hc : W.cell? ⟨b, i, none⟩ = some v) : (W.putObj l o').cell? ⟨b, i, none⟩ = some v := by
  by_cases hb : b = l
  · subst hb
    cases o <;> simp [World.cell?, h] at hc ho
    · cases ho
  · rw [World.cell?_of_block (a := ⟨b, i, none⟩) (World.putObj_heap_other hb)]; exact hc
theorem KpE.refl {Bn b : Nat} {r : Bool} (A : World) : KpE Bn b r A A := fun x => x
theorem KpE.book {Bn b : Nat} {r : Bool} (W : World) (l : Nat) (o o' : Obj) (h : W.heap[l]? = some o) (ho : o.isCells = false) : KpE Bn b r W (W.putObj l o') :=
  fun ⟨h1, h2⟩ => ⟨putObj_cell h ho h1, putObj_cell h ho h2⟩

set_option maxHeartbeats 1000000 in
theorem numbers_in (F : Fence) (n : Nat) (h5 : F.fn 35) (hro : F.round = none) (p : Option Addr) (w : World) :
    CallsIn F n Try.prog 35 #[.pointer p] w fun e w' => e = .returned (.func (.func 49) #[] #[.pointer (some ⟨w.heap.size, 0, none⟩)]) ∧ w' = w.alloc (.cells #[.pointer p] 65) := by
  refine callsIn_of_wp Try.func35 rfl h5 ?_ hro
  simp only [Try.ntmps35, List.size_toArray, List.length_cons, List.length_nil, Nat.reduceAdd, Nat.reduceSub, Array.replicate_succ, Array.replicate_zero, List.push_toArray, List.append_toArray, List.nil_append, List.cons_append]
  gi_wp2
  go_ret
  exact ⟨rfl, rfl⟩

set_option maxRecDepth 100000 in
set_option maxHeartbeats 4000000 in
theorem numbers1_in (F : Fence) (n : Nat) (hF : F.fn 49) (hro : F.round = none) (hn : 1 ≤ n) (l Bn b : Nat) (r : Bool) (J Jx : List Off → World → Prop)
    (hY : ∀ pre x W, J pre W → pre.length < 7 → YieldAt F (n - 1) Try.prog l #[.pointer (some ⟨b, x.1, none⟩)] W fun e W' =>
      (e = .returned (.bool true) ∧ J (pre ++ [x]) W' ∧ KpE Bn b r W W') ∨ (e = .returned (.bool false) ∧ Jx (pre ++ [x]) W'))
    (W : World) (hBn : W.cell? ⟨Bn, 0, none⟩ = some (.pointer (some ⟨b, 0, none⟩))) (hr : W.cell? ⟨b, 4, none⟩ = some (.bool r)) (h0 : J [] W) :
    CallsIn F n Try.prog 49 #[.func (.yield l) #[] #[], .pointer (some ⟨Bn, 0, none⟩)] W fun e W' => (∃ v, e = .returned v) ∧
      ((∃ ys, ys = offR r ∧ J ys W') ∨ (∃ pre : List Off, True ∧ Jx pre W')) := by
  have hfin : ∀ (ys : List Off) (W' : World) (v : Value), ys = offR r → J ys W' → (∃ u, Ending.returned v = .returned u) ∧ ((∃ ys, ys = offR r ∧ J ys W') ∨ (∃ pre : List Off, True ∧ Jx pre W')) := fun ys W' v h1 h2 => ⟨⟨_, rfl⟩, .inl ⟨ys, h1, h2⟩⟩
  have hstop : ∀ (ys : List Off) (W' : World) (v : Value), Jx ys W' → (∃ u, Ending.returned v = .returned u) ∧ ((∃ ys, ys = offR r ∧ J ys W') ∨ (∃ pre : List Off, True ∧ Jx pre W')) := fun ys W' v h2 => ⟨⟨_, rfl⟩, .inr ⟨ys, trivial, h2⟩⟩
  have HY := Lib.hid hY
  have HF := Lib.hid hfin
  have HS := Lib.hid hstop
  clear hY hfin hstop
  refine callsIn_of_wp Try.func49 rfl hF ?_ hro
  simp only [Try.ntmps49, List.size_toArray, List.length_cons, List.length_nil, Nat.reduceAdd, Nat.reduceSub, Array.replicate_succ, Array.replicate_zero, List.push_toArray, List.append_toArray, List.nil_append, List.cons_append]
  obtain ⟨fn, tmps, assign, body, hy, hR⟩ := HY.out [] ⟨1, by simp⟩ W h0 (by simp)
  clear h0
  gi_wp2
  refine hR.mono ?_
  rintro e W1 (⟨rfl, hJ1, hk1⟩ | ⟨rfl, hJx1⟩)
  rotate_left
  · gi_wp2
    repeat (any_goals (refine ⟨fun _ h => (by cases h), ?_⟩; gi_wp2))
    all_goals first | (refine bodyPost_ret (results_none rfl _ _ _) rfl ?_; exact HS.out _ _ _ hJx1) | (exfalso; obtain ⟨b0, h0⟩ : ∃ b0, some undef = some (Value.bool b0) := ⟨_, by assumption⟩; injection h0 with h0; cases h0)
  obtain ⟨hBn1, hr1⟩ := hk1 ⟨hBn, hr⟩
  clear hk1 hBn hr hR hy
  obtain ⟨fn, tmps, assign, body, hy, hR⟩ := HY.out _ ⟨2, by simp⟩ W1 hJ1 (by simp)
  gi_wp2
  refine hR.mono ?_
  rintro e W2 (⟨rfl, hJ2, hk2⟩ | ⟨rfl, hJx1⟩)
  rotate_left
  · gi_wp2
    repeat (any_goals (refine ⟨fun _ h => (by cases h), ?_⟩; gi_wp2))
    all_goals first | (refine bodyPost_ret (results_none rfl _ _ _) rfl ?_; exact HS.out _ _ _ hJx1) | (exfalso; obtain ⟨b0, h0⟩ : ∃ b0, some undef = some (Value.bool b0) := ⟨_, by assumption⟩; injection h0 with h0; cases h0)
  obtain ⟨hBn2, hr2⟩ := hk2 ⟨hBn1, hr1⟩
  clear hk2 hBn1 hr1 hR hy hJ1
  cases r
  · gi_wp2
    repeat (refine ⟨fun _ h => (by cases h), ?_⟩; gi_wp2)
    gi_loopw [34] (fun i wr => ∃ k : Nat, k ≤ 4 ∧ i = .int .i64 k ∧ J ((offR false).take (2 + k)) wr ∧ wr.cell? ⟨Bn, 0, none⟩ = some (.pointer (some ⟨b, 0, none⟩)) ∧ wr.cell? ⟨b, 4, none⟩ = some (.bool false)) (fun i _ => 4 - (intOf i).toNat)
    case atStart => exact ⟨0, by omega, rfl, hJ2, hBn2, hr2⟩
    case round =>
      obtain ⟨k, hk, rfl, hJ, hB, hR⟩ := hrel
      obtain rfl | rfl | rfl | rfl | rfl : k = 0 ∨ k = 1 ∨ k = 2 ∨ k = 3 ∨ k = 4 := by omega
      · obtain ⟨fn, tmps, assign, body, hy, hY⟩ := HY.out _ ⟨6, by simp⟩ wr hJ (by simp [offR])
        gi_wp2
        refine hY.mono ?_
        rintro e W4 (⟨rfl, hJ4, hk4⟩ | ⟨rfl, hJx1⟩)
        rotate_left
        · gi_wp2
          repeat (any_goals (refine ⟨fun _ h => (by cases h), ?_⟩; gi_wp2))
          all_goals first | (refine bodyPost_ret (results_none rfl _ _ _) rfl ?_; exact HS.out _ _ _ hJx1) | (exfalso; obtain ⟨b0, h0⟩ : ∃ b0, some undef = some (Value.bool b0) := ⟨_, by assumption⟩; injection h0 with h0; cases h0)
        obtain ⟨hB4, hR4⟩ := hk4 ⟨hB, hR⟩
        clear hk4 hB hR hy hJ hY
        gi_wp2
        go_roundw
        case rel => exact ⟨0 + 1, by omega, rfl, hJ4, hB4, hR4⟩
        case measure => simp [intOf]
      · obtain ⟨fn, tmps, assign, body, hy, hY⟩ := HY.out _ ⟨7, by simp⟩ wr hJ (by simp [offR])
        gi_wp2
        refine hY.mono ?_
        rintro e W4 (⟨rfl, hJ4, hk4⟩ | ⟨rfl, hJx1⟩)
        rotate_left
        · gi_wp2
          repeat (any_goals (refine ⟨fun _ h => (by cases h), ?_⟩; gi_wp2))
          all_goals first | (refine bodyPost_ret (results_none rfl _ _ _) rfl ?_; exact HS.out _ _ _ hJx1) | (exfalso; obtain ⟨b0, h0⟩ : ∃ b0, some undef = some (Value.bool b0) := ⟨_, by assumption⟩; injection h0 with h0; cases h0)
        obtain ⟨hB4, hR4⟩ := hk4 ⟨hB, hR⟩
        clear hk4 hB hR hy hJ hY
        gi_wp2
        go_roundw
        case rel => exact ⟨1 + 1, by omega, rfl, hJ4, hB4, hR4⟩
        case measure => simp [intOf]
      · obtain ⟨fn, tmps, assign, body, hy, hY⟩ := HY.out _ ⟨8, by simp⟩ wr hJ (by simp [offR])
        gi_wp2
        refine hY.mono ?_
        rintro e W4 (⟨rfl, hJ4, hk4⟩ | ⟨rfl, hJx1⟩)
        rotate_left
        · gi_wp2
          repeat (any_goals (refine ⟨fun _ h => (by cases h), ?_⟩; gi_wp2))
          all_goals first | (refine bodyPost_ret (results_none rfl _ _ _) rfl ?_; exact HS.out _ _ _ hJx1) | (exfalso; obtain ⟨b0, h0⟩ : ∃ b0, some undef = some (Value.bool b0) := ⟨_, by assumption⟩; injection h0 with h0; cases h0)
        obtain ⟨hB4, hR4⟩ := hk4 ⟨hB, hR⟩
        clear hk4 hB hR hy hJ hY
        gi_wp2
        go_roundw
        case rel => exact ⟨2 + 1, by omega, rfl, hJ4, hB4, hR4⟩
        case measure => simp [intOf]
      · obtain ⟨fn, tmps, assign, body, hy, hY⟩ := HY.out _ ⟨9, by simp⟩ wr hJ (by simp [offR])
        gi_wp2
        refine hY.mono ?_
        rintro e W4 (⟨rfl, hJ4, hk4⟩ | ⟨rfl, hJx1⟩)
        rotate_left
        · gi_wp2
          repeat (any_goals (refine ⟨fun _ h => (by cases h), ?_⟩; gi_wp2))
          all_goals first | (refine bodyPost_ret (results_none rfl _ _ _) rfl ?_; exact HS.out _ _ _ hJx1) | (exfalso; obtain ⟨b0, h0⟩ : ∃ b0, some undef = some (Value.bool b0) := ⟨_, by assumption⟩; injection h0 with h0; cases h0)
        obtain ⟨hB4, hR4⟩ := hk4 ⟨hB, hR⟩
        clear hk4 hB hR hy hJ hY
        gi_wp2
        go_roundw
        case rel => exact ⟨3 + 1, by omega, rfl, hJ4, hB4, hR4⟩
        case measure => simp [intOf]
      · gi_wp2
        go_end0
        exact HF.out _ _ _ rfl hJ
  · obtain ⟨fn, tmps, assign, body, hy, hR⟩ := HY.out _ ⟨5, by simp⟩ W2 hJ2 (by simp)
    gi_wp2
    refine hR.mono ?_
    rintro e W3 (⟨rfl, hJ3, hk3⟩ | ⟨rfl, hJx1⟩)
    rotate_left
    · gi_wp2
      repeat (any_goals (refine ⟨fun _ h => (by cases h), ?_⟩; gi_wp2))
      all_goals first | (refine bodyPost_ret (results_none rfl _ _ _) rfl ?_; exact HS.out _ _ _ hJx1) | (exfalso; obtain ⟨b0, h0⟩ : ∃ b0, some undef = some (Value.bool b0) := ⟨_, by assumption⟩; injection h0 with h0; cases h0)
    obtain ⟨hBn3, hr3⟩ := hk3 ⟨hBn2, hr2⟩
    clear hk3 hBn2 hr2 hR hy hJ2
    gi_wp2
    gi_loopw [34] (fun i wr => ∃ k : Nat, k ≤ 4 ∧ i = .int .i64 k ∧ J ((offR true).take (3 + k)) wr ∧ wr.cell? ⟨Bn, 0, none⟩ = some (.pointer (some ⟨b, 0, none⟩)) ∧ wr.cell? ⟨b, 4, none⟩ = some (.bool true)) (fun i _ => 4 - (intOf i).toNat)
    case atStart => exact ⟨0, by omega, rfl, hJ3, hBn3, hr3⟩
    case round =>
      obtain ⟨k, hk, rfl, hJ, hB, hR⟩ := hrel
      obtain rfl | rfl | rfl | rfl | rfl : k = 0 ∨ k = 1 ∨ k = 2 ∨ k = 3 ∨ k = 4 := by omega
      · obtain ⟨fn, tmps, assign, body, hy, hY⟩ := HY.out _ ⟨6, by simp⟩ wr hJ (by simp [offR])
        gi_wp2
        refine hY.mono ?_
        rintro e W4 (⟨rfl, hJ4, hk4⟩ | ⟨rfl, hJx1⟩)
        rotate_left
        · gi_wp2
          repeat (any_goals (refine ⟨fun _ h => (by cases h), ?_⟩; gi_wp2))
          all_goals first | (refine bodyPost_ret (results_none rfl _ _ _) rfl ?_; exact HS.out _ _ _ hJx1) | (exfalso; obtain ⟨b0, h0⟩ : ∃ b0, some undef = some (Value.bool b0) := ⟨_, by assumption⟩; injection h0 with h0; cases h0)
        obtain ⟨hB4, hR4⟩ := hk4 ⟨hB, hR⟩
        clear hk4 hB hR hy hJ hY
        gi_wp2
        go_roundw
        case rel => exact ⟨0 + 1, by omega, rfl, hJ4, hB4, hR4⟩
        case measure => simp [intOf]
      · obtain ⟨fn, tmps, assign, body, hy, hY⟩ := HY.out _ ⟨7, by simp⟩ wr hJ (by simp [offR])
        gi_wp2
        refine hY.mono ?_
        rintro e W4 (⟨rfl, hJ4, hk4⟩ | ⟨rfl, hJx1⟩)
        rotate_left
        · gi_wp2
          repeat (any_goals (refine ⟨fun _ h => (by cases h), ?_⟩; gi_wp2))
          all_goals first | (refine bodyPost_ret (results_none rfl _ _ _) rfl ?_; exact HS.out _ _ _ hJx1) | (exfalso; obtain ⟨b0, h0⟩ : ∃ b0, some undef = some (Value.bool b0) := ⟨_, by assumption⟩; injection h0 with h0; cases h0)
        obtain ⟨hB4, hR4⟩ := hk4 ⟨hB, hR⟩
        clear hk4 hB hR hy hJ hY
        gi_wp2
        go_roundw
        case rel => exact ⟨1 + 1, by omega, rfl, hJ4, hB4, hR4⟩
        case measure => simp [intOf]
      · obtain ⟨fn, tmps, assign, body, hy, hY⟩ := HY.out _ ⟨8, by simp⟩ wr hJ (by simp [offR])
        gi_wp2
        refine hY.mono ?_
        rintro e W4 (⟨rfl, hJ4, hk4⟩ | ⟨rfl, hJx1⟩)
        rotate_left
        · gi_wp2
          repeat (any_goals (refine ⟨fun _ h => (by cases h), ?_⟩; gi_wp2))
          all_goals first | (refine bodyPost_ret (results_none rfl _ _ _) rfl ?_; exact HS.out _ _ _ hJx1) | (exfalso; obtain ⟨b0, h0⟩ : ∃ b0, some undef = some (Value.bool b0) := ⟨_, by assumption⟩; injection h0 with h0; cases h0)
        obtain ⟨hB4, hR4⟩ := hk4 ⟨hB, hR⟩
        clear hk4 hB hR hy hJ hY
        gi_wp2
        go_roundw
        case rel => exact ⟨2 + 1, by omega, rfl, hJ4, hB4, hR4⟩
        case measure => simp [intOf]
      · obtain ⟨fn, tmps, assign, body, hy, hY⟩ := HY.out _ ⟨9, by simp⟩ wr hJ (by simp [offR])
        gi_wp2
        refine hY.mono ?_
        rintro e W4 (⟨rfl, hJ4, hk4⟩ | ⟨rfl, hJx1⟩)
        rotate_left
        · gi_wp2
          repeat (any_goals (refine ⟨fun _ h => (by cases h), ?_⟩; gi_wp2))
          all_goals first | (refine bodyPost_ret (results_none rfl _ _ _) rfl ?_; exact HS.out _ _ _ hJx1) | (exfalso; obtain ⟨b0, h0⟩ : ∃ b0, some undef = some (Value.bool b0) := ⟨_, by assumption⟩; injection h0 with h0; cases h0)
        obtain ⟨hB4, hR4⟩ := hk4 ⟨hB, hR⟩
        clear hk4 hB hR hy hJ hY
        gi_wp2
        go_roundw
        case rel => exact ⟨3 + 1, by omega, rfl, hJ4, hB4, hR4⟩
        case measure => simp [intOf]
      · gi_wp2
        go_end0
        exact HF.out _ _ _ rfl hJ
end Go.Proofs.Ytgjpbhgobjlneaa
