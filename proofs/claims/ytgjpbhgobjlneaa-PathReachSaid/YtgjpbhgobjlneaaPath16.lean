/- The law PathReach. Conditions: the numbers are ints. -/
import Derived.Test.YtgjpbhgobjlneaaPath13
import Derived.Test.YtgjpbhgobjlneaaPath15
namespace Go.Proofs.Ytgjpbhgobjlneaa
open Go.RowKit Go.Sort
section
variable (l : List Cl) (A : Option Addr) (c : Nat) (w : World)
set_option maxRecDepth 100000 in
set_option maxHeartbeats 1000000 in
theorem law45Reach_far (xs : List Int) (XA : Option Addr) (xc : Nat) (tx ar : Int) (h1 : SlB Cl.cells 7 w w.heap.size A l) (hn : l.length ≤ 9223372036854775807) (hg : greatL l = true ∨ 20 < xs.length) :
    Calls Try.prog 5 #[.slice A l.length c, .agg #[.slice XA xs.length xc, .int .i64 tx, .int .i64 ar]] w fun e w' => e = .returned (.bool true) ∧ Grw w w' := by
  have H := Lib.hid h1
  cases hgr : greatL l
  · have HG := Lib.hid hgr
    have hx : 20 < xs.length := by
      rcases hg with hg | hg
      · rw [hgr] at hg; cases hg
      · exact hg
    have hx2 : (20 : Int) < (xs.length : Int) := by omega
    clear h1 hg hgr
    go_enter Try.func5, Try.ntmps5
    go_wp2_with (first
      | (go_at_call 15; refine (l45great_any l A c _ _ (H.out.alloc _) hn).mono ?_; rintro e w' ⟨rfl, rfl⟩; rw [HG.out])
      | (go_at_call 16; refine (awake45 _).mono ?_; rintro e w' ⟨rfl, hg⟩; have HQ := Lib.hid hg; clear hg))
    go_ret
    exact ⟨rfl, ((Grw.refl _).alloc _).trans HQ.out⟩
  · have HG := Lib.hid hgr
    clear h1 hg hgr
    go_enter Try.func5, Try.ntmps5
    go_wp2_with (first
      | (go_at_call 15; refine (l45great_any l A c _ _ (H.out.alloc _) hn).mono ?_; rintro e w' ⟨rfl, rfl⟩; rw [HG.out])
      | (go_at_call 16; refine (awake45 _).mono ?_; rintro e w' ⟨rfl, hg⟩; have HQ := Lib.hid hg; clear hg))
    go_ret
    exact ⟨rfl, ((Grw.refl _).alloc _).trans HQ.out⟩
set_option maxRecDepth 100000 in
set_option maxHeartbeats 8000000 in
theorem law45Reach_near (xs : List Int) (XA : Option Addr) (xc : Nat) (tx ar : Int) (h : Hp w w.heap.size A l) (hn : l.length ≤ 25) (hX : SlB intC 1 w w.heap.size XA xs) (hxn : xs.length ≤ 20) (hxw : ∀ a ∈ xs, (Lit.int .i64 a).wf = true) (hg : greatL l = false) :
    Calls Try.prog 5 #[.slice A l.length c, .agg #[.slice XA xs.length xc, .int .i64 tx, .int .i64 ar]] w fun e w' => e = .returned (.bool true) ∧ Grw w w' := by
  have hn' : l.length ≤ 1000000 := by omega
  have hxn' : xs.length ≤ 1000000 := by omega
  have hx2 : ¬ (20 : Int) < (xs.length : Int) := by omega
  obtain ⟨W1, hW1⟩ : ∃ W1, w.alloc (.cells #[.slice XA xs.length xc, .int .i64 tx, .int .i64 ar] 41) = W1 := ⟨_, rfl⟩
  have HGW := Lib.hid (show Grw w W1 by rw [← hW1]; exact (Grw.refl _).alloc _)
  have HSS : Hid (∀ w', Grw W1 w' → w'.cell? ⟨w.heap.size, 0, none⟩ = some (.slice XA xs.length xc) ∧ w'.cell? ⟨w.heap.size, 1, none⟩ = some (.int .i64 tx) ∧ w'.cell? ⟨w.heap.size, 2, none⟩ = some (.int .i64 ar) ∧ w.heap.size < w'.heap.size) := Lib.hid (fun w' hg' => by
    have hb := World.alloc_heap_new w (.cells #[.slice XA xs.length xc, .int .i64 tx, .int .i64 ar] 41)
    rw [hW1] at hb
    have hb2 := (hg'.below.block _ (Array.getElem?_eq_some_iff.1 hb).1).trans hb
    exact ⟨(cells_all hb2 0).trans rfl, (cells_all hb2 1).trans rfl, (cells_all hb2 2).trans rfl, (Array.getElem?_eq_some_iff.1 hb2).1⟩)
  have H := Lib.hid (h.grw HGW.out)
  have HX := Lib.hid (hX.grw HGW.out)
  have HXW := Lib.hid hxw
  have HG := Lib.hid hg
  have HNL := Lib.hid (namesL_len h tx)
  have HRL := Lib.hid (Nat.le_trans (rootsL_len l) hn')
  have HZL := Lib.hid (show (reachL l xs ar).length ≤ 1000000 by rw [← (show _ from rfl : reachL l xs ar = reachL l xs ar)]; unfold reachL; rw [sortL_len, List.length_map]; exact Nat.le_trans (Neat.spread l xs ar (namesL l)).len hn')
  have HW1 := Lib.hid hW1
  have HS1 := Lib.hid (show (namesL l tx == namesL l tx) = true by simp)
  have HS2 := Lib.hid (show (rootsL l == rootsL l) = true by simp)
  have HS3 := Lib.hid (show (reachL l xs ar == reachL l xs ar) = true by simp)
  obtain ⟨c0, c1, c2, cl⟩ := HSS.out W1 (Grw.refl _)
  clear h hX hxw hg hW1
  go_enter Try.func5, Try.ntmps5
  go_upto_region 3 with (first
    | (rw [HW1.out]; done)
    | (go_at_call 15; (try rw [HW1.out]); refine (l45great_any l A c _ _ (H.out.1) (by omega)).mono ?_; rintro e w' ⟨rfl, rfl⟩; rw [HG.out]))
  try rw [HW1.out]
  refine wp_region_segs [([true, true, true, false, true, true, true], [false, false, false, true]), ([], [false, false, false, false, false, false, false, true]), ([], [false, false, false, false, false, false, false, false, true]), ([false, false, false, false, false, false, false, false, false, true, true, false, true], [false, false, false, false, false, false, false, false, false, false, false, true]), ([], [false, false, false, false, false, false, false, false, false, false, false, false, false, true]), ([], [false, false, false, false, false, false, false, false, false, false, false, false, false, false, true]), ([false, false, false, false, false, false, false, false, false, false, false, false, false, false, false, true, true, true, true, true, true, true, false, true, true, true, true, true], [false, false, false, false, false, false, false, false, false, false, false, false, false, false, false, false, false, false, false, false, false, false, true]), ([], [false, false, false, false, false, false, false, false, false, false, false, false, false, false, false, false, false, false, false, false, false, false, false, false, false, false, false, false, true]), ([], [false, false, false, false, false, false, false, false, false, false, false, false, false, false, false, false, false, false, false, false, false, false, false, false, false, false, false, false, false, true]), ([false, false, false, false, false, false, false, false, false, false, false, false, false, false, false, false, false, false, false, false, false, false, false, false, false, false, false, false, false, false, true, true], [false, false, false, false, false, false, false, false, false, false, false, false, false, false, false, false, false, false, false, false, false, false, false, false, false, false, false, false, false, false, false, false, true])] [false, false, false, false, false, false, false, false, false, false, false, false, false, false, false, false, false, false, false, false, false, false, false, false, false, false, false, false, false, false, false, false, false, true, true] (by kernel_rfl) (by kernel_rfl) ?_
  refine segs_cons ?_
  simp only [pick, pick1]
  repeat (go_big_quiet_step (fail))
  refine wpQuiet_nil ?_
  intro u1 HU1 K1 hKK1
  replace HU1 := Lib.hid (id (Up.grw HU1))
  clear c0 c1 c2 cl
  go_wp2_with (go_at_call 18; refine (pNames_any l A c _ _ tx (H.out.grw HU1.out) hn').mono ?_; rintro e v1 ⟨A1, s1, rfl, hq, hr⟩; have HR1 := Lib.hid (own_slb hr); have HQ1 := Lib.hid hq; clear hr hq)
  refine hKK1.out _ _ (Grw.up HQ1.out) ?_
  have HB1 := Lib.hid (HU1.out.trans HQ1.out)
  clear hKK1
  refine segs_cons ?_
  simp only [pick, pick1]
  repeat (go_big_quiet_step (fail))
  refine wpQuiet_nil ?_
  intro u2 HU2 K2 hKK2
  replace HU2 := Lib.hid (id (Up.grw HU2))
  go_wp2_with (go_at_call 19; refine (r45Names_any l A c _ _ tx (H.out.grw (HB1.out.trans HU2.out)) hn').mono ?_; rintro e v2 ⟨A2, s2, rfl, hq, hr⟩; have HR2 := Lib.hid (own_slb hr); have HQ2 := Lib.hid hq; clear hr hq)
  refine hKK2.out _ _ (Grw.up HQ2.out) ?_
  have HB2 := Lib.hid ((HB1.out.trans HU2.out).trans HQ2.out)
  clear hKK2
  refine segs_cons ?_
  simp only [pick, pick1]
  repeat (go_big_quiet_step (fail))
  refine wpQuiet_nil ?_
  intro u3 HU3 K3 hKK3
  replace HU3 := Lib.hid (id (Up.grw HU3))
  go_wp2_with (go_at_call 17; refine (l45same_any (namesL l tx) (namesL l tx) A1 A2 s1 s2 _ _ _ (HR1.out.grw (HU2.out.trans (HQ2.out.trans HU3.out))) (HR2.out.grw HU3.out) HNL.out).mono ?_; rintro e v3 ⟨rfl, hq⟩; have HQ3 := Lib.hid hq; clear hq; rw [HS1.out])
  refine hKK3.out _ _ (Grw.up HQ3.out) ?_
  have HB3 := Lib.hid ((HB2.out.trans HU3.out).trans HQ3.out)
  clear hKK3
  refine segs_cons ?_
  simp only [pick, pick1]
  repeat (go_big_quiet_step (fail))
  refine wpQuiet_nil ?_
  intro u4 HU4 K4 hKK4
  replace HU4 := Lib.hid (id (Up.grw HU4))
  go_wp2_with (go_at_call 20; refine (pRoots_any l A c _ _ (H.out.grw (HB3.out.trans HU4.out)) hn').mono ?_; rintro e v4 ⟨A4, s4, rfl, hq, hr⟩; have HR4 := Lib.hid (own_slb hr); have HQ4 := Lib.hid hq; clear hr hq)
  refine hKK4.out _ _ (Grw.up HQ4.out) ?_
  have HB4 := Lib.hid ((HB3.out.trans HU4.out).trans HQ4.out)
  clear hKK4
  refine segs_cons ?_
  simp only [pick, pick1]
  repeat (go_big_quiet_step (fail))
  refine wpQuiet_nil ?_
  intro u5 HU5 K5 hKK5
  replace HU5 := Lib.hid (id (Up.grw HU5))
  go_wp2_with (go_at_call 21; refine (r45Roots_any l A c _ _ (H.out.grw (HB4.out.trans HU5.out)) hn').mono ?_; rintro e v5 ⟨A5, s5, rfl, hq, hr⟩; have HR5 := Lib.hid (own_slb hr); have HQ5 := Lib.hid hq; clear hr hq)
  refine hKK5.out _ _ (Grw.up HQ5.out) ?_
  have HB5 := Lib.hid ((HB4.out.trans HU5.out).trans HQ5.out)
  clear hKK5
  refine segs_cons ?_
  simp only [pick, pick1]
  repeat (go_big_quiet_step (fail))
  refine wpQuiet_nil ?_
  intro u6 HU6 K6 hKK6
  replace HU6 := Lib.hid (id (Up.grw HU6))
  go_wp2_with (go_at_call 17; refine (l45same_any (rootsL l) (rootsL l) A4 A5 s4 s5 _ _ _ (HR4.out.grw (HU5.out.trans (HQ5.out.trans HU6.out))) (HR5.out.grw HU6.out) HRL.out).mono ?_; rintro e v6 ⟨rfl, hq⟩; have HQ6 := Lib.hid hq; clear hq; rw [HS2.out])
  refine hKK6.out _ _ (Grw.up HQ6.out) ?_
  have HB6 := Lib.hid ((HB5.out.trans HU6.out).trans HQ6.out)
  clear hKK6
  obtain ⟨c0, c1, c2, cl⟩ := HSS.out _ HB6.out
  refine segs_cons ?_
  simp only [pick, pick1]
  repeat (go_big_quiet_step (fail))
  refine wpQuiet_nil ?_
  intro u7 HU7 K7 hKK7
  replace HU7 := Lib.hid (id (Up.grw HU7))
  clear c0 c1 c2 cl
  go_wp2_with (go_at_call 22; refine (pReach_any l A c _ _ xs XA xc _ ar (H.out.grw (HB6.out.trans HU7.out)) hn' (HX.out.grw (HB6.out.trans HU7.out)) hxn' HXW.out).mono ?_; rintro e v7 ⟨A7, s7, rfl, hq, hr⟩; have HR7 := Lib.hid (own_slb hr); have HQ7 := Lib.hid hq; clear hr hq)
  refine hKK7.out _ _ (Grw.up HQ7.out) ?_
  have HB7 := Lib.hid ((HB6.out.trans HU7.out).trans HQ7.out)
  clear hKK7
  refine segs_cons ?_
  simp only [pick, pick1]
  repeat (go_big_quiet_step (fail))
  refine wpQuiet_nil ?_
  intro u8 HU8 K8 hKK8
  replace HU8 := Lib.hid (id (Up.grw HU8))
  go_wp2_with (go_at_call 23; refine (r45Reach_any l A c _ _ xs XA xc _ ar (H.out.grw (HB7.out.trans HU8.out)) hn' (HX.out.grw (HB7.out.trans HU8.out)) hxn').mono ?_; rintro e v8 ⟨A8, s8, rfl, hq, hr⟩; have HR8 := Lib.hid (own_slb hr); have HQ8 := Lib.hid hq; clear hr hq)
  refine hKK8.out _ _ (Grw.up HQ8.out) ?_
  have HB8 := Lib.hid ((HB7.out.trans HU8.out).trans HQ8.out)
  clear hKK8
  refine segs_cons ?_
  simp only [pick, pick1]
  repeat (go_big_quiet_step (fail))
  refine wpQuiet_nil ?_
  intro u9 HU9 K9 hKK9
  replace HU9 := Lib.hid (id (Up.grw HU9))
  go_wp2_with (go_at_call 17; refine (l45same_any (reachL l xs ar) (reachL l xs ar) A7 A8 s7 s8 _ _ _ (HR7.out.grw (HU8.out.trans (HQ8.out.trans HU9.out))) (HR8.out.grw HU9.out) HZL.out).mono ?_; rintro e v9 ⟨rfl, hq⟩; have HQ9 := Lib.hid hq; clear hq; rw [HS3.out])
  refine hKK9.out _ _ (Grw.up HQ9.out) ?_
  have HB9 := Lib.hid ((HB8.out.trans HU9.out).trans HQ9.out)
  clear hKK9
  refine segs_cons ?_
  simp only [pick, pick1]
  repeat (go_big_quiet_step (fail))
  refine wpQuiet_nil ?_
  intro u10 HU10 K10 hKK10
  replace HU10 := Lib.hid (id (Up.grw HU10))
  go_wp2_with (go_at_call 16; refine (awake45 _).mono ?_; rintro e v10 ⟨rfl, hq⟩; have HQ10 := Lib.hid hq; clear hq)
  refine hKK10.out _ _ (Grw.up HQ10.out) ?_
  have HB10 := Lib.hid ((HB9.out.trans HU10.out).trans HQ10.out)
  clear hKK10
  refine segs_nil ?_
  simp only [pick]
  repeat (go_big_quiet_step (fail))
  refine wpQuiet_nil ?_
  intro u11 HU11
  replace HU11 := Lib.hid (id (Up.grw HU11))
  go_wp2_with fail
  go_ret
  exact ⟨rfl, HGW.out.trans (HB10.out.trans HU11.out)⟩
end
end Go.Proofs.Ytgjpbhgobjlneaa
