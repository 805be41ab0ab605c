/- The law PathTrue. Conditions: none beyond what an argument is. -/
import Derived.Test.YtgjpbhgobjlneaaPath12
import Derived.Test.YtgjpbhgobjlneaaSeg
import Derived.Deep.DeepCutAuto
import Derived.Deep.RegionHeld3
namespace Go.Proofs.Ytgjpbhgobjlneaa
open Go.RowKit Go.Sort
theorem not_great {l : List Cl} (h : greatL l = false) : l.length ≤ 25 ∧ ∀ c ∈ l, c.fl.length ≤ 20 := by
  unfold greatL at h
  have h2 := List.any_eq_false.1 h
  refine ⟨?_, fun c hc => ?_⟩
  · cases l with
    | nil => simp
    | cons x r =>
      have := h2 x (by simp)
      simp at this
      simp; omega
  · have := h2 c hc
    simp at this
    omega
theorem any_reach (l : List Cl) (tx ar : Int) : ((reachL l (rootsL l) ar).any fun x => x == tx) = decide (0 < (wayL l tx ar).length) := by
  rw [Bool.eq_iff_iff, decide_eq_true_iff, way_len, ← reach_mem]
  simp
theorem any_mem {xs : List Int} {a : Int} (h : a ∈ xs) : (xs.any fun x => x == a) = true := by
  rw [List.any_eq_true]; exact ⟨a, h, by simp⟩
theorem live_wf' {n : Nat} (hn : n ≤ 1000000) {a : Int} (h0 : 0 < a) (h : a ≤ n) : (Lit.int .i64 a).wf = true := by
  have e1 : IntKind.i64.min = -9223372036854775808 := rfl
  have e2 : IntKind.i64.max = 9223372036854775807 := rfl
  show (decide (IntKind.i64.min ≤ a) && decide (a ≤ IntKind.i64.max)) = true
  rw [e1, e2, Bool.and_eq_true, decide_eq_true_iff, decide_eq_true_iff]
  omega
section
variable (l : List Cl) (A : Option Addr) (c : Nat) (w : World)
set_option maxRecDepth 100000 in
set_option maxHeartbeats 1000000 in
theorem law45True_far (tx ar : Int) (h1 : SlB Cl.cells 7 w w.heap.size A l) (hn : l.length ≤ 9223372036854775807) (hg : greatL l = true) : Calls Try.prog 7 #[.slice A l.length c, .int .i64 tx, .int .i64 ar] w fun e w' => e = .returned (.bool true) ∧ Grw w w' := by
  have H := Lib.hid h1
  have HG := Lib.hid hg
  clear h1 hg
  go_enter Try.func7, Try.ntmps7
  go_wp2_with (first
    | (go_at_call 15; refine (l45great_any l A c _ w H.out hn).mono ?_; rintro e w' ⟨rfl, rfl⟩; rw [HG.out])
    | (go_at_call 16; refine (awake45 _).mono ?_; rintro e w' ⟨rfl, hg⟩; have HQ := Lib.hid hg; clear hg))
  go_ret
  exact ⟨rfl, HQ.out⟩
set_option maxRecDepth 100000 in
set_option maxHeartbeats 8000000 in
theorem law45True_near (tx ar : Int) (h : Hp w w.heap.size A l) (hn : l.length ≤ 25) (how : ∀ c ∈ l, (Lit.int .i64 c.o0).wf = true) (htx : (Lit.int .i64 tx).wf = true) (hg : greatL l = false) : Calls Try.prog 7 #[.slice A l.length c, .int .i64 tx, .int .i64 ar] w fun e w' => e = .returned (.bool true) ∧ Grw w w' := by
  have H := Lib.hid h
  have HG := Lib.hid hg
  have HOW := Lib.hid how
  have hn' : l.length ≤ 1000000 := by omega
  have HRL := Lib.hid (Nat.le_trans (rootsL_len l) hn')
  have HRW := Lib.hid (rootsL_wf hn')
  have HAR := Lib.hid (any_reach l tx ar)
  obtain ⟨ws, hws⟩ : ∃ ws, wayL l tx ar = ws := ⟨_, rfl⟩
  have HWS := Lib.hid hws
  rw [hws] at HAR
  obtain ⟨bb, hbb⟩ : ∃ bb, decide (0 < ws.length) = bb := ⟨_, rfl⟩
  rw [hbb] at HAR
  clear h hg how hws
  go_enter Try.func7, Try.ntmps7
  go_wp2_with (first
    | (go_at_call 15; refine (l45great_any l A c _ w H.out.1 (by omega)).mono ?_; rintro e w' ⟨rfl, rfl⟩; rw [HG.out])
    | (go_at_call 24; refine (pWay_any l A c _ w tx ar H.out hn' htx).mono ?_; rintro e w1 ⟨WA, wc, rfl, hg1, ho1⟩; rw [HWS.out] at ho1 ⊢; have HG1 := Lib.hid hg1; have HW1 := Lib.hid (own_slb ho1); clear hg1 ho1)
    | (go_at_call 20; refine (pRoots_any l A c _ _ (H.out.grw HG1.out) hn').mono ?_; rintro e w2 ⟨RA, rc, rfl, hg2, ho2⟩; have HG2 := Lib.hid hg2; have HR2 := Lib.hid (own_slb ho2); clear hg2 ho2)
    | (go_at_call 22; refine (pReach_any l A c _ _ (rootsL l) RA rc _ ar (H.out.grw (HG1.out.trans HG2.out)) hn' HR2.out HRL.out HRW.out).mono ?_; rintro e w3 ⟨XA, xc, rfl, hg3, ho3⟩; have HG3 := Lib.hid (HG2.out.trans hg3); have HX3 := Lib.hid (own_slb ho3); clear hg3 ho3)
    | (go_at_call 28; refine (l45has_any _ (reachL l (rootsL l) ar) XA xc _ tx HX3.out (Nat.le_trans (reachL_len l ar) hn')).mono ?_; rintro e w' ⟨rfl, rfl⟩; rw [HAR.out]))
  have HG13 := Lib.hid (HG1.out.trans HG3.out)
  have HW3 := Lib.hid (HW1.out.grw HG3.out)
  have HWL : Hid (∀ (i : Nat) (a : Int), ws[i]? = some a → a ≠ ar ∧ (i = 0 → a ∈ rootsL l) ∧ (i + 1 = ws.length → a = tx) ∧ ∀ (j : Nat) (b : Int), i = j + 1 → ws[j]? = some b → a ∈ namesL l b) := Lib.hid (by
    have := way_at l tx ar; rw [HWS.out] at this; exact this)
  have hwl : ws.length ≤ 1000000 := by
    have := climb_len (spreadL l (rootsL l) ar (sNamesL l)) (spreadL l (rootsL l) ar (sNamesL l)).length tx
    have h2 := (Neat.spread l (rootsL l) ar (sNamesL l)).len
    rw [← HWS.out]
    unfold wayL wayBy
    split
    · rw [List.length_reverse]; omega
    · simp
  clear hbb HAR HR2 HX3 HG1 HG2 HG3 HW1
  go_loopw [8] (fun i wr => ∃ k : Nat, k ≤ ws.length ∧ i = .int .i64 k ∧ Grw w3 wr) (fun i _ => ws.length - (intOf i).toNat)
  case atStart => exact ⟨0, Nat.zero_le _, rfl, Grw.refl _⟩
  case round =>
    obtain ⟨k, hk, rfl, hg⟩ := hrel
    have HGR := Lib.hid hg
    by_cases hlt : k < ws.length
    · obtain ⟨a, ha⟩ : ∃ o, ws[k]? = some o := ⟨_, List.getElem?_eq_getElem hlt⟩
      obtain ⟨hq1, hq2, hq3, hq4⟩ := HWL.out k a ha
      have e1 : ((a : Int) == ar) = false := by simpa using hq1
      have f3 : (k : Int) < (ws.length : Int) := by omega
      obtain ⟨g, o, rfl, _, hgl, hcc⟩ := (HW3.out.grw hg).at_ ha
      have d0 := hcc 0 _ rfl
      simp only [Nat.add_zero, Nat.mul_one] at d0
      have HA := Lib.hid ha
      have HD0 := Lib.hid d0
      have hgrow := hg
      rcases k with _ | j
      · have HANY := Lib.hid (any_mem (hq2 rfl))
        simp only [Nat.add_zero] at d0
        have HSS : Hid (∀ w', Grw wr w' → (fun w' => w'.cell? ⟨g, o, none⟩ = some (.int .i64 a) ∧ Grw wr w') w') := Lib.hid (fun w' hg' => ⟨(World.cell?_of_block (a := ⟨g, o, none⟩) (hg'.below.block g hgl)).trans d0, hg'⟩)
        clear hcc hg hgrow ha hq1 hq2 hq4 HD0 HA
        go_upto_region 9 with fail
        go_cut [88] (fun s wx => s = .bool false ∧ Grw wr wx)
        case first =>
          by_cases hl : 0 + 1 = ws.length
          · have e2 : ((0 : Int) == (ws.length : Int) - 1) = true := by simp; omega
            have e4 : ((a : Int) != tx) = false := by simp [hq3 hl]
            clear hq3 hl
            refine wp_region_segs [([true, true, true, true, true, true, true, true, true, true, true, false, true, true, true], [false, false, false, false, false, false, false, false, false, false, false, true]), ([], [false, false, false, false, false, false, false, false, false, false, false, false, false, false, false, true]), ([false, false, false, false, false, false, false, false, false, false, false, false, false, false, false, false, true, true, true, true, true, true, true, true, true, true, true, true, true, false, true, true, true, true], [false, false, false, false, false, false, false, false, false, false, false, false, false, false, false, false, false, false, false, false, false, false, false, false, false, false, false, false, false, true]), ([], [false, false, false, false, false, false, false, false, false, false, false, false, false, false, false, false, false, false, false, false, false, false, false, false, false, false, false, false, false, false, false, false, false, false, true])] [false, false, false, false, false, false, false, false, false, false, false, false, false, false, false, false, false, false, false, false, false, false, false, false, false, false, false, false, false, false, false, false, false, false, false, true, true, true, true, true, true, true, true, true, true, true, true, true, true, true, true, true, true] (by kernel_rfl) (by kernel_rfl) ?_
            refine segs_cons ?_
            simp only [pick, pick1]
            repeat (go_big_quiet_step (fail))
            refine wpQuiet_nil ?_
            intro u1 HU1 K1 hKK1
            replace HU1 := Lib.hid (id (Up.grw HU1))
            go_wp2_with (go_at_call 20; refine (pRoots_any l A c _ _ (H.out.grw (HG13.out.trans (HGR.out.trans HU1.out))) hn').mono ?_; rintro e w5 ⟨RA9, rc9, rfl, hq5, hr5⟩; have HR5 := Lib.hid (own_slb hr5); have HQ5 := Lib.hid hq5; clear hr5 hq5)
            refine hKK1.out _ _ (Grw.up HQ5.out) ?_
            clear hKK1
            refine segs_cons ?_
            simp only [pick, pick1]
            repeat (go_big_quiet_step (fail))
            refine wpQuiet_nil ?_
            intro u2 HU2 K2 hKK2
            replace HU2 := Lib.hid (id (Up.grw HU2))
            go_wp2_with (go_at_call 28; refine (l45has_any _ (rootsL l) RA9 rc9 _ a (HR5.out.grw HU2.out) HRL.out).mono ?_; rintro e w6 ⟨rfl, rfl⟩; rw [HANY.out])
            refine hKK2.out _ _ (Up.refl _) ?_
            clear hKK2
            refine segs_cons ?_
            simp only [pick, pick1]
            repeat (go_big_quiet_step (fail))
            refine wpQuiet_nil ?_
            intro u3 HU3 K3 hKK3
            replace HU3 := Lib.hid (id (Up.grw HU3))
            go_wp2_with fail
            refine hKK3.out _ _ (Up.refl _) ?_
            clear hKK3
            refine segs_cons ?_
            simp only [pick, pick1]
            repeat (go_big_quiet_step (fail))
            refine wpQuiet_nil ?_
            intro u4 HU4 K4 hKK4
            replace HU4 := Lib.hid (id (Up.grw HU4))
            go_wp2_with fail
            refine hKK4.out _ _ (Up.refl _) ?_
            clear hKK4
            have d5 := (HSS.out _ (HU1.out.trans (HQ5.out.trans (HU2.out.trans (HU3.out.trans HU4.out))))).1
            have l5 := World.block_lt_of_cell? _ _ d5
            refine segs_nil ?_
            simp only [pick]
            repeat (go_big_quiet_step (fail))
            refine wpQuiet_nil ?_
            intro u5 HU5
            replace HU5 := Lib.hid (id (Up.grw HU5))
            go_wp2_with fail
            go_meet
            exact ⟨rfl, HU1.out.trans (HQ5.out.trans (HU2.out.trans (HU3.out.trans (HU4.out.trans HU5.out))))⟩
          · have e2 : ((0 : Int) == (ws.length : Int) - 1) = false := by simp; omega
            clear hq3 hl
            refine wp_region_segs [([true, true, true, true, true, true, true, true, true, true, true, false, true, true, true], [false, false, false, false, false, false, false, false, false, false, false, true]), ([], [false, false, false, false, false, false, false, false, false, false, false, false, false, false, false, true]), ([false, false, false, false, false, false, false, false, false, false, false, false, false, false, false, false, true, true, true, true, true, true, true, true, true, true, true, true, true, false, true, true, true, true], [false, false, false, false, false, false, false, false, false, false, false, false, false, false, false, false, false, false, false, false, false, false, false, false, false, false, false, false, false, true]), ([], [false, false, false, false, false, false, false, false, false, false, false, false, false, false, false, false, false, false, false, false, false, false, false, false, false, false, false, false, false, false, false, false, false, false, true])] [false, false, false, false, false, false, false, false, false, false, false, false, false, false, false, false, false, false, false, false, false, false, false, false, false, false, false, false, false, false, false, false, false, false, false, true, true, true, true, true, true, true, true, true, true, true, true, true, true, true, true, true, true] (by kernel_rfl) (by kernel_rfl) ?_
            refine segs_cons ?_
            simp only [pick, pick1]
            repeat (go_big_quiet_step (fail))
            refine wpQuiet_nil ?_
            intro u1 HU1 K1 hKK1
            replace HU1 := Lib.hid (id (Up.grw HU1))
            go_wp2_with (go_at_call 20; refine (pRoots_any l A c _ _ (H.out.grw (HG13.out.trans (HGR.out.trans HU1.out))) hn').mono ?_; rintro e w5 ⟨RA9, rc9, rfl, hq5, hr5⟩; have HR5 := Lib.hid (own_slb hr5); have HQ5 := Lib.hid hq5; clear hr5 hq5)
            refine hKK1.out _ _ (Grw.up HQ5.out) ?_
            clear hKK1
            refine segs_cons ?_
            simp only [pick, pick1]
            repeat (go_big_quiet_step (fail))
            refine wpQuiet_nil ?_
            intro u2 HU2 K2 hKK2
            replace HU2 := Lib.hid (id (Up.grw HU2))
            go_wp2_with (go_at_call 28; refine (l45has_any _ (rootsL l) RA9 rc9 _ a (HR5.out.grw HU2.out) HRL.out).mono ?_; rintro e w6 ⟨rfl, rfl⟩; rw [HANY.out])
            refine hKK2.out _ _ (Up.refl _) ?_
            clear hKK2
            refine segs_cons ?_
            simp only [pick, pick1]
            repeat (go_big_quiet_step (fail))
            refine wpQuiet_nil ?_
            intro u3 HU3 K3 hKK3
            replace HU3 := Lib.hid (id (Up.grw HU3))
            go_wp2_with fail
            refine hKK3.out _ _ (Up.refl _) ?_
            clear hKK3
            refine segs_cons ?_
            simp only [pick, pick1]
            repeat (go_big_quiet_step (fail))
            refine wpQuiet_nil ?_
            intro u4 HU4 K4 hKK4
            replace HU4 := Lib.hid (id (Up.grw HU4))
            go_wp2_with fail
            refine hKK4.out _ _ (Up.refl _) ?_
            clear hKK4
            have d5 := (HSS.out _ (HU1.out.trans (HQ5.out.trans (HU2.out.trans (HU3.out.trans HU4.out))))).1
            have l5 := World.block_lt_of_cell? _ _ d5
            refine segs_nil ?_
            simp only [pick]
            repeat (go_big_quiet_step (fail))
            refine wpQuiet_nil ?_
            intro u5 HU5
            replace HU5 := Lib.hid (id (Up.grw HU5))
            go_wp2_with fail
            go_meet
            exact ⟨rfl, HU1.out.trans (HQ5.out.trans (HU2.out.trans (HU3.out.trans (HU4.out.trans HU5.out))))⟩
        case rest =>
          obtain ⟨rfl, hgc⟩ := hcut
          have HGC := Lib.hid (HGR.out.trans hgc)
          clear hgc HSS hq3
          go_wp2
          go_roundw
          case rel => first | exact ⟨1, by omega, by go_num, HGC.out⟩ | ((repeat apply Exists.intro); exact ⟨⟨1, by omega, by go_num, HGC.out⟩, rfl⟩)
          case measure => simp [intOf]; omega
      · obtain ⟨b, hb⟩ : ∃ o, ws[j]? = some o := ⟨_, List.getElem?_eq_getElem (show j < ws.length by omega)⟩
        have HANY := Lib.hid (any_mem (hq4 j b rfl hb))
        have HNL := Lib.hid (namesL_len H.out b)
        obtain ⟨g2, o2, hA2, _, hgl2, hcc2⟩ := (HW3.out.grw hg).at_ hb
        cases hA2
        have db := hcc2 0 _ rfl
        simp only [Nat.add_zero, Nat.mul_one] at db
        have HSS : Hid (∀ w', Grw wr w' → w'.cell? ⟨g, o + (j + 1), none⟩ = some (.int .i64 a) ∧ w'.cell? ⟨g, o + j, none⟩ = some (.int .i64 b) ∧ Grw wr w') := Lib.hid (fun w' hg' => ⟨(World.cell?_of_block (a := ⟨g, o + (j + 1), none⟩) (hg'.below.block g hgl)).trans d0, (World.cell?_of_block (a := ⟨g, o + j, none⟩) (hg'.below.block g hgl)).trans db, hg'⟩)
        have e0 : ((j : Int) + 1 == 0) = false := by rw [beq_eq_false_iff_ne]; omega
        have e3 : decide ((0 : Int) < (j : Int) + 1) = true := decide_eq_true (by omega)
        have j0 : (0 : Int) ≤ (j : Int) := by omega
        have j1 : (j : Int) < (ws.length : Int) := by omega
        have j2 : (j : Int) + 1 < (ws.length : Int) := by omega
        clear hcc hcc2 hg hgrow ha hb hq1 hq2 hq4 HD0 HA
        go_upto_region 9 with fail
        go_cut [88] (fun s wx => s = .bool false ∧ Grw wr wx)
        case first =>
          by_cases hl : j + 1 + 1 = ws.length
          · have e2 : ((j : Int) + 1 == (ws.length : Int) - 1) = true := by rw [beq_iff_eq]; omega
            have e4 : ((a : Int) != tx) = false := by simp [hq3 hl]
            clear hq3 hl
            refine wp_region_segs [([true, true, true, true, true, true, true, true, true, true, true, false, true, true, true], [false, false, false, false, false, false, false, false, false, false, false, true]), ([], [false, false, false, false, false, false, false, false, false, false, false, false, false, false, false, true]), ([false, false, false, false, false, false, false, false, false, false, false, false, false, false, false, false, true, true, true, true, true, true, true, true, true, true, true, true, true, false, true, true, true, true], [false, false, false, false, false, false, false, false, false, false, false, false, false, false, false, false, false, false, false, false, false, false, false, false, false, false, false, false, false, true]), ([], [false, false, false, false, false, false, false, false, false, false, false, false, false, false, false, false, false, false, false, false, false, false, false, false, false, false, false, false, false, false, false, false, false, false, true])] [false, false, false, false, false, false, false, false, false, false, false, false, false, false, false, false, false, false, false, false, false, false, false, false, false, false, false, false, false, false, false, false, false, false, false, true, true, true, true, true, true, true, true, true, true, true, true, true, true, true, true, true, true] (by kernel_rfl) (by kernel_rfl) ?_
            refine segs_cons ?_
            simp only [pick, pick1]
            repeat (go_big_quiet_step (fail))
            refine wpQuiet_nil ?_
            intro u1 HU1 K1 hKK1
            replace HU1 := Lib.hid (id (Up.grw HU1))
            go_wp2_with fail
            refine hKK1.out _ _ (Up.refl _) ?_
            clear hKK1
            refine segs_cons ?_
            simp only [pick, pick1]
            repeat (go_big_quiet_step (fail))
            refine wpQuiet_nil ?_
            intro u2 HU2 K2 hKK2
            replace HU2 := Lib.hid (id (Up.grw HU2))
            go_wp2_with fail
            refine hKK2.out _ _ (Up.refl _) ?_
            clear hKK2
            have c3 := (HSS.out _ (HU1.out.trans HU2.out)).1
            have b3 := (HSS.out _ (HU1.out.trans HU2.out)).2.1
            have l3 := World.block_lt_of_cell? _ _ b3
            refine segs_cons ?_
            simp only [pick, pick1]
            repeat (go_big_quiet_step (fail))
            refine wpQuiet_nil ?_
            intro u3 HU3 K3 hKK3
            replace HU3 := Lib.hid (id (Up.grw HU3))
            go_wp2_with (go_at_call 18; refine (pNames_any l A c _ _ b (H.out.grw (HG13.out.trans (HGR.out.trans (HU1.out.trans (HU2.out.trans HU3.out))))) hn').mono ?_; rintro e w5 ⟨RA9, rc9, rfl, hq5, hr5⟩; have HR5 := Lib.hid (own_slb hr5); have HQ5 := Lib.hid hq5; clear hr5 hq5)
            refine hKK3.out _ _ (Grw.up HQ5.out) ?_
            clear hKK3
            have c4 := (HSS.out _ (HU1.out.trans (HU2.out.trans (HU3.out.trans HQ5.out)))).1
            have l4 := World.block_lt_of_cell? _ _ c4
            refine segs_cons ?_
            simp only [pick, pick1]
            repeat (go_big_quiet_step (fail))
            refine wpQuiet_nil ?_
            intro u4 HU4 K4 hKK4
            replace HU4 := Lib.hid (id (Up.grw HU4))
            go_wp2_with (go_at_call 28; refine (l45has_any _ (namesL l b) RA9 rc9 _ a (HR5.out.grw HU4.out) HNL.out).mono ?_; rintro e w6 ⟨rfl, rfl⟩; rw [HANY.out])
            refine hKK4.out _ _ (Up.refl _) ?_
            clear hKK4
            have c5 := (HSS.out _ (HU1.out.trans (HU2.out.trans (HU3.out.trans (HQ5.out.trans HU4.out))))).1
            have l5 := World.block_lt_of_cell? _ _ c5
            refine segs_nil ?_
            simp only [pick]
            repeat (go_big_quiet_step (fail))
            refine wpQuiet_nil ?_
            intro u5 HU5
            replace HU5 := Lib.hid (id (Up.grw HU5))
            go_wp2_with fail
            go_meet
            exact ⟨rfl, HU1.out.trans (HU2.out.trans (HU3.out.trans (HQ5.out.trans (HU4.out.trans HU5.out))))⟩
          · have e2 : ((j : Int) + 1 == (ws.length : Int) - 1) = false := by rw [beq_eq_false_iff_ne]; omega
            clear hq3 hl
            refine wp_region_segs [([true, true, true, true, true, true, true, true, true, true, true, false, true, true, true], [false, false, false, false, false, false, false, false, false, false, false, true]), ([], [false, false, false, false, false, false, false, false, false, false, false, false, false, false, false, true]), ([false, false, false, false, false, false, false, false, false, false, false, false, false, false, false, false, true, true, true, true, true, true, true, true, true, true, true, true, true, false, true, true, true, true], [false, false, false, false, false, false, false, false, false, false, false, false, false, false, false, false, false, false, false, false, false, false, false, false, false, false, false, false, false, true]), ([], [false, false, false, false, false, false, false, false, false, false, false, false, false, false, false, false, false, false, false, false, false, false, false, false, false, false, false, false, false, false, false, false, false, false, true])] [false, false, false, false, false, false, false, false, false, false, false, false, false, false, false, false, false, false, false, false, false, false, false, false, false, false, false, false, false, false, false, false, false, false, false, true, true, true, true, true, true, true, true, true, true, true, true, true, true, true, true, true, true] (by kernel_rfl) (by kernel_rfl) ?_
            refine segs_cons ?_
            simp only [pick, pick1]
            repeat (go_big_quiet_step (fail))
            refine wpQuiet_nil ?_
            intro u1 HU1 K1 hKK1
            replace HU1 := Lib.hid (id (Up.grw HU1))
            go_wp2_with fail
            refine hKK1.out _ _ (Up.refl _) ?_
            clear hKK1
            refine segs_cons ?_
            simp only [pick, pick1]
            repeat (go_big_quiet_step (fail))
            refine wpQuiet_nil ?_
            intro u2 HU2 K2 hKK2
            replace HU2 := Lib.hid (id (Up.grw HU2))
            go_wp2_with fail
            refine hKK2.out _ _ (Up.refl _) ?_
            clear hKK2
            have c3 := (HSS.out _ (HU1.out.trans HU2.out)).1
            have b3 := (HSS.out _ (HU1.out.trans HU2.out)).2.1
            have l3 := World.block_lt_of_cell? _ _ b3
            refine segs_cons ?_
            simp only [pick, pick1]
            repeat (go_big_quiet_step (fail))
            refine wpQuiet_nil ?_
            intro u3 HU3 K3 hKK3
            replace HU3 := Lib.hid (id (Up.grw HU3))
            go_wp2_with (go_at_call 18; refine (pNames_any l A c _ _ b (H.out.grw (HG13.out.trans (HGR.out.trans (HU1.out.trans (HU2.out.trans HU3.out))))) hn').mono ?_; rintro e w5 ⟨RA9, rc9, rfl, hq5, hr5⟩; have HR5 := Lib.hid (own_slb hr5); have HQ5 := Lib.hid hq5; clear hr5 hq5)
            refine hKK3.out _ _ (Grw.up HQ5.out) ?_
            clear hKK3
            have c4 := (HSS.out _ (HU1.out.trans (HU2.out.trans (HU3.out.trans HQ5.out)))).1
            have l4 := World.block_lt_of_cell? _ _ c4
            refine segs_cons ?_
            simp only [pick, pick1]
            repeat (go_big_quiet_step (fail))
            refine wpQuiet_nil ?_
            intro u4 HU4 K4 hKK4
            replace HU4 := Lib.hid (id (Up.grw HU4))
            go_wp2_with (go_at_call 28; refine (l45has_any _ (namesL l b) RA9 rc9 _ a (HR5.out.grw HU4.out) HNL.out).mono ?_; rintro e w6 ⟨rfl, rfl⟩; rw [HANY.out])
            refine hKK4.out _ _ (Up.refl _) ?_
            clear hKK4
            have c5 := (HSS.out _ (HU1.out.trans (HU2.out.trans (HU3.out.trans (HQ5.out.trans HU4.out))))).1
            have l5 := World.block_lt_of_cell? _ _ c5
            refine segs_nil ?_
            simp only [pick]
            repeat (go_big_quiet_step (fail))
            refine wpQuiet_nil ?_
            intro u5 HU5
            replace HU5 := Lib.hid (id (Up.grw HU5))
            go_wp2_with fail
            go_meet
            exact ⟨rfl, HU1.out.trans (HU2.out.trans (HU3.out.trans (HQ5.out.trans (HU4.out.trans HU5.out))))⟩
        case rest =>
          obtain ⟨rfl, hgc⟩ := hcut
          have HGC := Lib.hid (HGR.out.trans hgc)
          clear hgc HSS hq3
          go_wp2
          go_roundw
          case rel => first | exact ⟨j + 1 + 1, by omega, by go_num, HGC.out⟩ | ((repeat apply Exists.intro); exact ⟨⟨j + 1 + 1, by omega, by go_num, HGC.out⟩, rfl⟩)
          case measure => simp [intOf]; omega
    · obtain rfl : k = ws.length := by omega
      clear hg hlt hk hwl
      go_wp2_with (go_at_call 26; refine (pWild_any l A c _ _ (H.out.grw (HG13.out.trans HGR.out)) hn' HOW.out).mono ?_; rintro e w4 ⟨IA, ic, rfl, hg4, ho4⟩; have HG4 := Lib.hid (HG13.out.trans (HGR.out.trans hg4)); have HI4 := Lib.hid (own_slb ho4); clear hg4 ho4)
      go_loopw [10] (fun i wr => ∃ k : Nat, k ≤ l.length ∧ i = .int .i64 ((k : Int) + 1) ∧ Grw w4 wr) (fun i _ => l.length + 1 - (intOf i).toNat)
      case atStart => exact ⟨0, Nat.zero_le _, rfl, Grw.refl _⟩
      case round =>
        obtain ⟨k, hk, rfl, hg⟩ := hrel
        have HGR2 := Lib.hid hg
        by_cases hlt : k < l.length
        · obtain ⟨x, hx⟩ : ∃ o, l[k]? = some o := ⟨_, List.getElem?_eq_getElem hlt⟩
          obtain ⟨b, o, rfl, _, hbl, hc⟩ := ((H.out.grw HG4.out).1.grw hg).at_ hx
          have d0 := hc 0 _ rfl
          have d1 := hc 1 _ rfl
          have d2 := hc 2 _ rfl
          have d3 := hc 3 _ rfl
          have d4 := hc 4 _ rfl
          have d5 := hc 5 _ rfl
          have d6 := hc 6 _ rfl
          simp only [Nat.add_zero] at d0
          have g3 : (k : Int) < (l.length : Int) := by omega
          have HBB : Hid (((wildL l).any fun z => z == (k : Int) + 1) = wildB l k x) := Lib.hid (by
            rw [Bool.eq_iff_iff, ← wild_mem l k x hx]; simp)
          have HWB := Lib.hid (wildB_way l k x)
          obtain ⟨xd, hxd⟩ : ∃ v, x.dead = v := ⟨_, rfl⟩
          rw [hxd] at d6 HWB
          obtain ⟨W1, hW1⟩ : ∃ W1, wr.alloc (.cells #[.string (bs x.cls), .int .i64 x.o0, .int .i64 x.o1, .int .i64 x.o2, .int .i64 x.o3, .slice x.fA x.fl.length x.fc, .bool xd] 53) = W1 := ⟨_, rfl⟩
          have HGW1 := Lib.hid (show Grw wr W1 by rw [← hW1]; exact (Grw.refl _).alloc _)
          have HSS : Hid (∀ w', Grw W1 w' → (fun w' => w'.cell? ⟨wr.heap.size, 1, none⟩ = some (.int .i64 x.o0) ∧ w'.cell? ⟨wr.heap.size, 6, none⟩ = some (.bool xd) ∧ Grw W1 w') w') := Lib.hid (fun w' hg' => by
            have hb := World.alloc_heap_new wr (.cells #[.string (bs x.cls), .int .i64 x.o0, .int .i64 x.o1, .int .i64 x.o2, .int .i64 x.o3, .slice x.fA x.fl.length x.fc, .bool xd] 53)
            rw [hW1] at hb
            have hb2 := (hg'.below.block _ (Array.getElem?_eq_some_iff.1 hb).1).trans hb
            exact ⟨(cells_all hb2 1).trans rfl, (cells_all hb2 6).trans rfl, hg'⟩)
          have HW1E := Lib.hid hW1
          clear hg hc hx hxd hlt hW1
          go_upto_region 16 with fail
          rw [HW1E.out]
          go_cut [124] (fun s wx => s = .bool false ∧ Grw wr wx)
          case first =>
            obtain ⟨c1, c6, _⟩ := HSS.out W1 (Grw.refl _)
            have hbl2 : wr.heap.size < W1.heap.size := World.block_lt_of_cell? _ _ c1
            clear d0 d1 d2 d3 d4 d5 d6 HW1E
            cases xd
            · by_cases h0 : 0 < x.o0
              · obtain ⟨bv, hbv⟩ : ∃ bv, decide (0 < (wayL l ((k : Int) + 1) x.o0).length) = bv := ⟨_, rfl⟩
                have HB2 := Lib.hid (show wildB l k x = bv by rw [HWB.out, hbv, decide_eq_true h0]; rfl)
                have h0d : decide (0 < x.o0) = true := decide_eq_true h0
                clear h0
                go_region_held3 (fun w' => w'.cell? ⟨wr.heap.size, 1, none⟩ = some (.int .i64 x.o0) ∧ w'.cell? ⟨wr.heap.size, 6, none⟩ = some (.bool false) ∧ Grw W1 w') (exact HSS.out _ (by first | assumption | exact (Grw.refl _).drew)) (first | (go_at_call 28; refine (l45has_any _ (wildL l) IA ic _ ((k : Int) + 1) (HI4.out.grw (HGR2.out.trans (HGW1.out.trans (by first | assumption | exact (Grw.refl _).drew)))) (Nat.le_trans (wildTo_len0 l l 0) hn')).mono ?_; rintro e w5 ⟨rfl, rfl⟩; rw [HBB.out, HB2.out]) | (go_at_call 24; refine (pWay_any l _ c _ _ ((k : Int) + 1) x.o0 (H.out.grw (HG4.out.trans (HGR2.out.trans (HGW1.out.trans (by first | assumption | exact (Grw.refl _).drew))))) hn' (live_wf' hn' (by omega) (by omega))).mono ?_; rintro e w6 ⟨YA, yc, rfl, hq6, _⟩; have hx6 : Grw W1 w6 := Grw.trans (by first | assumption | exact (Grw.refl _).drew) hq6))
                all_goals go_wp2_with fail
                all_goals go_meet
                all_goals first | exact ⟨rfl, HGW1.out.trans (by first | assumption | exact (Grw.refl _).drew)⟩ | exact ⟨by simp, HGW1.out.trans (by first | assumption | exact (Grw.refl _).drew)⟩
              · have HB2 := Lib.hid (show wildB l k x = false by rw [HWB.out, decide_eq_false h0]; rfl)
                have h0d : decide (0 < x.o0) = false := decide_eq_false h0
                clear h0
                have HAS0 : Hid (∀ W, Grw W1 W → Calls Try.prog 28 #[.slice IA (wildL l).length ic, .int .i64 ((k : Int) + 1)] W fun e w' => e = .returned (.bool false) ∧ W = w') := Lib.hid (fun W hgw => by
                  refine (l45has_any W (wildL l) IA ic _ ((k : Int) + 1) (HI4.out.grw (HGR2.out.trans (HGW1.out.trans hgw))) (Nat.le_trans (wildTo_len0 l l 0) hn')).mono ?_
                  rintro e w5 ⟨rfl, rfl⟩
                  exact ⟨by rw [HBB.out, HB2.out], rfl⟩)
                refine wp_region_grw (by kernel_rfl) (by kernel_rfl) ?_
                repeat (go_big_quiet_step ((go_at_call 28; exact grw_left (HAS0.out _ ((Grw.refl _).ext _ _)))))
                refine wpQuiet_nil ?_
                rintro _ ⟨⟨gh, gd⟩, rfl⟩
                dsimp only
                all_goals go_wp2_with fail
                all_goals go_meet
                all_goals exact ⟨rfl, HGW1.out.trans ((Grw.refl _).ext _ _)⟩
            · have HB2 := Lib.hid (show wildB l k x = false by rw [HWB.out]; rfl)
              have HAS0 : Hid (∀ W, Grw W1 W → Calls Try.prog 28 #[.slice IA (wildL l).length ic, .int .i64 ((k : Int) + 1)] W fun e w' => e = .returned (.bool false) ∧ W = w') := Lib.hid (fun W hgw => by
                refine (l45has_any W (wildL l) IA ic _ ((k : Int) + 1) (HI4.out.grw (HGR2.out.trans (HGW1.out.trans hgw))) (Nat.le_trans (wildTo_len0 l l 0) hn')).mono ?_
                rintro e w5 ⟨rfl, rfl⟩
                exact ⟨by rw [HBB.out, HB2.out], rfl⟩)
              refine wp_region_grw (by kernel_rfl) (by kernel_rfl) ?_
              repeat (go_big_quiet_step ((go_at_call 28; exact grw_left (HAS0.out _ ((Grw.refl _).ext _ _)))))
              refine wpQuiet_nil ?_
              rintro _ ⟨⟨gh, gd⟩, rfl⟩
              dsimp only
              all_goals go_wp2_with fail
              all_goals go_meet
              all_goals exact ⟨rfl, HGW1.out.trans ((Grw.refl _).ext _ _)⟩
          case rest =>
            obtain ⟨rfl, hgc⟩ := hcut
            have HGC := Lib.hid (HGR2.out.trans hgc)
            clear hgc HSS HW1E
            go_wp2
            go_roundw
            case rel => first | exact ⟨k + 1, by omega, by go_num, HGC.out⟩ | ((repeat apply Exists.intro); exact ⟨⟨k + 1, by omega, by go_num, HGC.out⟩, rfl⟩)
            case measure => simp [intOf]; omega
        · obtain rfl : k = l.length := by omega
          clear hg hlt
          go_wp2_with (go_at_call 16; refine (awake45 _).mono ?_; rintro e w' ⟨rfl, hg⟩; have HQ := Lib.hid hg; clear hg)
          go_ret
          exact ⟨rfl, HG4.out.trans (HGR2.out.trans HQ.out)⟩
end
end Go.Proofs.Ytgjpbhgobjlneaa
