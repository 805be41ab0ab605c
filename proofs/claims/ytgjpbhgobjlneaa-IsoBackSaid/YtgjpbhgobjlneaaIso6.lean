/- Contracts of layer 44's reference: Numbers, alike, sign. Conditions: none. -/
import Derived.Test.YtgjpbhgobjlneaaIso5
namespace Go.Proofs.Ytgjpbhgobjlneaa
open Go.RowKit
set_option maxHeartbeats 1000000 in
theorem r44sign_any (n : Int) (w : World) : Calls Try.prog 34 #[.int .i64 n] w fun e w' => e = .returned (.int .i64 (sgn n)) ∧ w = w' := by
  have hcs : 0 < n ∨ n < 0 ∨ n = 0 := by omega
  rcases hcs with h | h | rfl
  · have HC := Lib.hid (show sgn n = 1 by unfold sgn; rw [if_pos h])
    go_enter Try.func34, Try.ntmps34
    go_wp2
    go_ret
    exact ⟨by rw [HC.out]; rfl, rfl⟩
  · have HC := Lib.hid (show sgn n = -1 by unfold sgn; rw [if_neg (by omega), if_pos h])
    have h2 : ¬ 0 < n := by omega
    go_enter Try.func34, Try.ntmps34
    go_wp2
    go_ret
    exact ⟨by rw [HC.out]; rfl, rfl⟩
  · go_enter Try.func34, Try.ntmps34
    go_wp2
    go_ret
    exact ⟨rfl, rfl⟩
section
variable (a b : Ev) (w : World)
set_option maxRecDepth 100000 in
set_option maxHeartbeats 1000000 in
theorem r44alike_any : Calls Try.prog 32 #[.agg a.arr, .agg b.arr] w fun e w' => e = .returned (.bool (alikeE a b)) ∧ Grw w w' := by
  obtain ⟨k1, x1, y1, n1, r1, v1, p1, p2, p3, p4⟩ := a
  obtain ⟨k2, x2, y2, n2, r2, v2, q1, q2, q3, q4⟩ := b
  simp only [Ev.arr]
  have hb := bs_beq2 n1 n2
  by_cases hk : k1 = k2
  · subst hk
    by_cases hn : n1 = n2
    · subst hn
      have e2 : (n1 == n1) = true := by simp
      cases r1 <;> cases r2
      · by_cases hv : v1 = v2
        · subst hv
          go_enter Try.func32, Try.ntmps32
          go_wp2
          go_ret
          exact ⟨ret_bool (by simp [alikeE]), by first | exact Grw.refl _ | (repeat (first | exact Grw.refl _ | apply Grw.ext | apply Grw.alloc | apply Grw.drewN | apply Grw.drew)); done⟩
        · have e3 : ((v1 : Int) == v2) = false := by simpa using hv
          clear hv
          go_enter Try.func32, Try.ntmps32
          go_wp2
          go_ret
          exact ⟨ret_bool (by simp [alikeE, e3]), by first | exact Grw.refl _ | (repeat (first | exact Grw.refl _ | apply Grw.ext | apply Grw.alloc | apply Grw.drewN | apply Grw.drew)); done⟩
      · go_enter Try.func32, Try.ntmps32
        go_wp2
        go_ret
        exact ⟨ret_bool (by simp [alikeE]), by first | exact Grw.refl _ | (repeat (first | exact Grw.refl _ | apply Grw.ext | apply Grw.alloc | apply Grw.drewN | apply Grw.drew)); done⟩
      · go_enter Try.func32, Try.ntmps32
        go_wp2
        go_ret
        exact ⟨ret_bool (by simp [alikeE]), by first | exact Grw.refl _ | (repeat (first | exact Grw.refl _ | apply Grw.ext | apply Grw.alloc | apply Grw.drewN | apply Grw.drew)); done⟩
      · go_enter Try.func32, Try.ntmps32
        go_wp2
        go_ret
        exact ⟨ret_bool (by simp [alikeE]), by first | exact Grw.refl _ | (repeat (first | exact Grw.refl _ | apply Grw.ext | apply Grw.alloc | apply Grw.drewN | apply Grw.drew)); done⟩
    · have e2 : (n1 == n2) = false := by simpa using hn
      clear hn
      go_enter Try.func32, Try.ntmps32
      go_wp2
      go_ret
      exact ⟨ret_bool (by simp [alikeE, e2]), by first | exact Grw.refl _ | (repeat (first | exact Grw.refl _ | apply Grw.ext | apply Grw.alloc | apply Grw.drewN | apply Grw.drew)); done⟩
  · have e1 : ((k1 : Int) == k2) = false := by simpa using hk
    clear hb hk
    go_enter Try.func32, Try.ntmps32
    go_wp2
    go_ret
    exact ⟨ret_bool (by simp [alikeE, e1]), by first | exact Grw.refl _ | (repeat (first | exact Grw.refl _ | apply Grw.ext | apply Grw.alloc | apply Grw.drewN | apply Grw.drew)); done⟩
theorem own_new (w : World) (cs : Array Value) (t : TypeId) (base sz n : Nat) (hn : cs.size = n * sz) (_hp : 0 < n) (hm : n ≤ maxLen) (hb : base ≤ w.heap.size) : (w.alloc (.cells cs t)).ownsRow base t sz (.slice (some ⟨w.heap.size, 0, none⟩) n n) n cs.toList :=
  ⟨by rw [Array.length_toList]; exact hn, .inr ⟨w.heap.size, n, cs, rfl, hb, block_alloc _ _ _ rfl, Nat.le_refl _, hm, hn, List.take_of_length_le (by rw [Array.length_toList]; omega)⟩⟩
def NumsPost (e : Ev) (w : World) (E : Ending) (W' : World) : Prop := ∃ A c, E = .returned (.slice A e.nums.length c) ∧ RowI W' A e.nums ∧ Grw w W'
set_option maxRecDepth 100000 in
set_option maxHeartbeats 1000000 in
theorem r44Numbers_any (e : Ev) : Calls Try.prog 33 #[.agg e.arr] w (NumsPost e w) := by
  obtain ⟨k1, x1, y1, n1, r1, v1, p1, p2, p3, p4⟩ := e
  obtain ⟨i0, hi, hz0, hz1, hz2⟩ := info_parts info_int
  simp only [Ev.arr]
  obtain ⟨W0, hW0⟩ : ∃ W0, w.alloc (.cells #[.int .i64 k1, .int .i64 x1, .int .i64 y1, .string (bs n1), .bool r1, .int .i64 v1, .int .i64 p1, .int .i64 p2, .int .i64 p3, .int .i64 p4] 35) = W0 := ⟨_, rfl⟩
  have hsz0 : W0.heap.size = w.heap.size + 1 := by rw [← hW0]; simp
  have HO := Lib.hid (own_new W0 #[.int .i64 x1, .int .i64 y1] 3 (w.heap.size + 1) 1 2 rfl (by omega) (by unfold maxLen; omega) (by omega))
  have HG0 := Lib.hid (show Grw w W0 by rw [← hW0]; exact (Grw.refl w).alloc _)
  have hblk : W0.heap[w.heap.size]? = some (.cells #[.int .i64 k1, .int .i64 x1, .int .i64 y1, .string (bs n1), .bool r1, .int .i64 v1, .int .i64 p1, .int .i64 p2, .int .i64 p3, .int .i64 p4] 35) := by
    rw [← hW0]; exact block_alloc w _ _ rfl
  have hcl : ∀ i, W0.cell? ⟨w.heap.size, i, none⟩ = (#[.int .i64 k1, .int .i64 x1, .int .i64 y1, .string (bs n1), .bool r1, .int .i64 v1, .int .i64 p1, .int .i64 p2, .int .i64 p3, .int .i64 p4] : Array Value)[i]? := by
    exact cells_all hblk
  have hlt : w.heap.size < W0.heap.size := by rw [hsz0]; omega
  have HSZ := Lib.hid hsz0
  clear hsz0
  cases r1
  · go_enter Try.func33, Try.ntmps33
    go_wp2_with (first
      | (at_builtin
         refine wpList_append_own _ rfl _ _ 39 rfl (w.heap.size + 1) 3 i0 _ 1 8 Try.underlying39 hi hz0 hz1 hz2 rfl (by decide) (.slice (some ⟨W0.heap.size, 0, none⟩) 2 2) 2 [.int .i64 x1, .int .i64 y1] rfl (HO.out.alloc _) ⟨W0.heap.size + 1, 0, none⟩ 4 4 [.int .i64 p1, .int .i64 p2, .int .i64 p3, .int .i64 p4] rfl rfl ?c1 ?c2 ?c3 ?c4 ?c5 ?_
         case c1 => exact news_alloc _ #[_, _, _, _] _ _ (by simp)
         case c2 => simp [Value.oneCell']
         case c3 => unfold maxLen; omega
         case c4 => omega
         case c5 => have := HSZ.out; simp; omega
         intro v' w1 hown1 hgrow _
         have HN := Lib.hid hown1
         have HGr := Lib.hid (show Grw w w1 by exact ((HG0.out.alloc _).alloc _).grown hgrow (fun j e => by have := own_beyond HO.out j e; omega))
         clear hown1 hgrow))
    obtain ⟨g', cap', rfl⟩ := ownsRow_succ HN.out
    go_ret
    exact ⟨_, _, rfl, .of_own (nums_ne _) HN.out, HGr.out⟩
  · go_enter Try.func33, Try.ntmps33
    go_wp2_with (first
      | (at_builtin
         refine wpList_append_own _ rfl _ _ 39 rfl (w.heap.size + 1) 3 i0 _ 1 8 Try.underlying39 hi hz0 hz1 hz2 rfl (by decide) (.slice (some ⟨W0.heap.size, 0, none⟩) 2 2) 2 [.int .i64 x1, .int .i64 y1] rfl (HO.out.alloc _) ⟨W0.heap.size + 1, 0, none⟩ 1 1 [.int .i64 v1] rfl rfl ?c1 ?c2 ?c3 ?c4 ?c5 ?_
         case c1 => exact news_alloc _ #[_] _ _ (by simp)
         case c2 => simp [Value.oneCell']
         case c3 => unfold maxLen; omega
         case c4 => omega
         case c5 => have := HSZ.out; simp; omega
         intro v1' w1 hown1 hgrow _
         have HN := Lib.hid hown1
         have HGr := Lib.hid (show Grw w w1 by exact ((HG0.out.alloc _).alloc _).grown hgrow (fun j e => by have := own_beyond HO.out j e; omega))
         have hcl1 : ∀ i, w1.cell? ⟨w.heap.size, i, none⟩ = (#[.int .i64 k1, .int .i64 x1, .int .i64 y1, .string (bs n1), .bool true, .int .i64 v1, .int .i64 p1, .int .i64 p2, .int .i64 p3, .int .i64 p4] : Array Value)[i]? := by
           exact cells_all ((hgrow.block _ (by simp; omega) (fun e => by have := own_beyond HO.out _ e.symm; omega)).trans ((Below.heap_alloc _ _ _ (by simp; omega)).trans ((Below.heap_alloc _ _ _ hlt).trans hblk)))
         have hlt1 : w.heap.size < w1.heap.size := by have := HGr.out.below.size; have := hgrow.size; simp at this; omega
         clear hown1 hgrow)
      | (at_builtin
         refine wpList_append_own _ rfl _ _ 39 rfl (w.heap.size + 1) 3 i0 _ 1 8 Try.underlying39 hi hz0 hz1 hz2 rfl (by decide) v1' 3 ([.int .i64 x1, .int .i64 y1] ++ [.int .i64 v1]) rfl (HN.out.alloc _) ⟨w1.heap.size, 0, none⟩ 4 4 [.int .i64 p1, .int .i64 p2, .int .i64 p3, .int .i64 p4] rfl rfl ?c1 ?c2 ?c3 ?c4 ?c5 ?_
         case c1 => exact news_alloc _ #[_, _, _, _] _ _ (by simp)
         case c2 => simp [Value.oneCell']
         case c3 => unfold maxLen; omega
         case c4 => omega
         case c5 => simp; omega
         intro v' w2 hown1 hgrow _
         have HN2 := Lib.hid hown1
         have HGr2 := Lib.hid (show Grw w w2 by exact (HGr.out.alloc _).grown hgrow (fun j e => by have := own_beyond HN.out j e; omega))
         clear hown1 hgrow))
    obtain ⟨g', cap', rfl⟩ := ownsRow_succ HN2.out
    go_ret
    exact ⟨_, _, rfl, .of_own (nums_ne _) HN2.out, HGr2.out⟩
end
end Go.Proofs.Ytgjpbhgobjlneaa
