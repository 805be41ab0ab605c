/- The contract of the document's Wild: it answers as the program's. The law PathWay. Conditions: the numbers are ints. -/
import Derived.Test.YtgjpbhgobjlneaaPath19
import Derived.Test.YtgjpbhgobjlneaaPath13
namespace Go.Proofs.Ytgjpbhgobjlneaa
open Go.RowKit Go.Sort
theorem reachL_len' (l : List Cl) (xs : List Int) (ar : Int) : (reachL l xs ar).length ≤ l.length := by
  unfold reachL; rw [sortL_len, List.length_map]; exact (Neat.spread l xs ar (namesL l)).len
section
variable (l : List Cl) (A : Option Addr) (c B : Nat) (w : World)
set_option maxRecDepth 100000 in
set_option maxHeartbeats 8000000 in
theorem r45Wild_any (h : Hp w B A l) (hn : l.length ≤ 1000000) : Calls Try.prog 27 #[.slice A l.length c] w (IntsPost (wildL l) w) := by
  obtain ⟨i0, hi, hz0, hz1, hz2⟩ := info_parts infoI
  have H := Lib.hid h
  have HRL := Lib.hid (Nat.le_trans (rootsL_len l) hn)
  clear h
  go_enter Try.func27, Try.ntmps27
  go_wp2
  go_loopw [3, 4] (fun out i wr => ∃ (k : Nat) (OA : Option Addr) (oc : Nat), k ≤ l.length ∧ i = .int .i64 ((k : Int) + 1) ∧ out = .slice OA (wildTo l 0 (l.take k)).length oc ∧ wr.ownsRow w.heap.size 3 1 (.slice OA (wildTo l 0 (l.take k)).length oc) (wildTo l 0 (l.take k)).length ((wildTo l 0 (l.take k)).map (Value.int .i64)) ∧ Grw w wr) (fun _ i _ => l.length + 1 - (intOf i).toNat)
  case atStart => exact ⟨0, none, 0, Nat.zero_le _, rfl, rfl, World.ownsRow_nil _ _ _ _, Grw.refl _⟩
  case round =>
    obtain ⟨k, OA, oc, hkl, rfl, rfl, hown, hg⟩ := hrel
    by_cases hlt : k < l.length
    · obtain ⟨x, hx⟩ : ∃ o, l[k]? = some o := ⟨_, List.getElem?_eq_getElem hlt⟩
      obtain ⟨b, o, rfl, _, hbl, hc⟩ := (H.out.grw hg).1.at_ hx
      have d1 := hc 1 _ rfl
      have g3 : (k : Int) < (l.length : Int) := by omega
      have HP := Lib.hid (wildTo_snoc (L := l) hx)
      have hpl := wildTo_len l l k
      have HLV := Lib.hid (liveL_nat l k x hx)
      obtain ⟨acc, hacc⟩ : ∃ acc, wildTo l 0 (l.take k) = acc := ⟨_, rfl⟩
      rw [hacc] at hown hpl HP ⊢
      have HO := Lib.hid hown
      have HG := Lib.hid hg
      have HWB := Lib.hid (show wildB l k x = (!x.dead && decide (0 < x.o0) && (reachL l (rootsL l) x.o0).contains ((k : Int) + 1)) from rfl)
      have HZL := Lib.hid (Nat.le_trans (reachL_len' l (rootsL l) x.o0) hn)
      obtain ⟨o0, ho0⟩ : ∃ z, x.o0 = z := ⟨_, rfl⟩
      rw [ho0] at HWB HZL d1
      have HSS : Hid (∀ u, Grw wr u → u.cell? ⟨b, o + k * 7 + 1, none⟩ = some (.int .i64 o0) ∧ b < u.heap.size) := Lib.hid (fun u hu => ⟨(World.cell?_of_block (a := ⟨b, o + k * 7 + 1, none⟩) (hu.below.block b hbl)).trans d1, Nat.lt_of_lt_of_le hbl hu.below.size⟩)
      clear hc hx hown hg hacc ho0 d1 hbl
      cases hd : x.dead
      · rw [hd] at HLV HWB
        by_cases h0 : 0 < o0
        · have h0d : decide (0 < o0) = true := decide_eq_true h0
          obtain ⟨bv, hbv⟩ : ∃ bv, ((reachL l (rootsL l) o0).any fun z => z == (k : Int) + 1) = bv := ⟨_, rfl⟩
          have HB := Lib.hid (show wildB l k x = bv by rw [HWB.out, h0d, ← hbv]; simp [List.any_beq'])
          have HAN := Lib.hid hbv
          clear hd hbv HWB
          cases bv
          ·
            go_upto_region 5 with fail
            refine wp_region_segs [([true, true], [false, false, true]), ([false, false, false, true, true, true, true, true, true, true, true, true, true, true, true, true, false, true, true, true, true, true, true, true, false, true], [false, false, false, false, false, false, false, false, false, false, false, false, false, false, false, false, true]), ([], [false, false, false, false, false, false, false, false, false, false, false, false, false, false, false, false, false, false, false, false, false, false, false, false, true]), ([], [false, false, false, false, false, false, false, false, false, false, false, false, false, false, false, false, false, false, false, false, false, false, false, false, false, false, true])] [false, false, false, false, false, false, false, false, false, false, false, false, false, false, false, false, false, false, false, false, false, false, false, false, false, false, false, true] (by kernel_rfl) (by kernel_rfl) ?_
            refine segs_cons ?_
            simp only [pick, pick1]
            repeat (go_big_quiet_step (fail))
            refine wpQuiet_nil ?_
            intro u1 HU1 K1 hKK1
            replace HU1 := Lib.hid (id (Up.grw HU1))
            go_wp2_with (go_at_call 37; refine (r45live_any l _ c B _ ((k : Int) + 1) (H.out.grw (HG.out.trans HU1.out)) hn).mono ?_; rintro e w' ⟨rfl, rfl⟩; rw [HLV.out])
            refine hKK1.out _ _ (Up.refl _) ?_
            clear hKK1
            obtain ⟨f1, l1⟩ := HSS.out _ HU1.out
            refine segs_cons ?_
            simp only [pick, pick1]
            repeat (go_big_quiet_step (fail))
            refine wpQuiet_nil ?_
            intro u2 HU2 K2 hKK2
            replace HU2 := Lib.hid (HU1.out.trans (Up.grw HU2))
            clear f1 l1
            go_wp2_with (go_at_call 21; refine (r45Roots_any l _ c B _ (H.out.grw (HG.out.trans HU2.out)) hn).mono ?_; rintro e V2 ⟨RA, rc, rfl, hq, hr⟩; have HR2 := Lib.hid (own_slb hr); have HQ2 := Lib.hid hq; have HB2 := Lib.hid (HU2.out.trans hq); clear hr hq)
            refine hKK2.out _ _ (Grw.up HQ2.out) ?_
            clear hKK2
            refine segs_cons ?_
            simp only [pick, pick1]
            repeat (go_big_quiet_step (fail))
            refine wpQuiet_nil ?_
            intro u3 HU3 K3 hKK3
            replace HU3 := Lib.hid (id (Up.grw HU3))
            go_wp2_with (go_at_call 23; refine (r45Reach_any l _ c B _ (rootsL l) RA rc _ o0 (H.out.grw (HG.out.trans (HB2.out.trans HU3.out))) hn (HR2.out.grw HU3.out) HRL.out).mono ?_; rintro e V3 ⟨ZA, zc, rfl, hq, hr⟩; have HR3 := Lib.hid (own_slb hr); have HQ3 := Lib.hid hq; have HB3 := Lib.hid (HB2.out.trans (HU3.out.trans hq)); clear hr hq)
            refine hKK3.out _ _ (Grw.up HQ3.out) ?_
            clear hKK3
            refine segs_cons ?_
            simp only [pick, pick1]
            repeat (go_big_quiet_step (fail))
            refine wpQuiet_nil ?_
            intro u4 HU4 K4 hKK4
            replace HU4 := Lib.hid (id (Up.grw HU4))
            go_wp2_with (go_at_call 41; refine (r45has_any _ (reachL l (rootsL l) o0) ZA zc _ ((k : Int) + 1) (HR3.out.grw HU4.out) HZL.out).mono ?_; rintro e w' ⟨rfl, rfl⟩; rw [HAN.out])
            refine hKK4.out _ _ (Up.refl _) ?_
            clear hKK4
            refine segs_nil ?_
            simp only [pick]
            repeat (go_big_quiet_step (fail))
            refine wpQuiet_nil ?_
            intro u5 HU5
            replace HU5 := Lib.hid (id (Up.grw HU5))
            have HB5 := Lib.hid (HB3.out.trans (HU4.out.trans HU5.out))
            clear HU5 HU4 HB3 HB2
            go_wp2
            go_roundw
            case rel => first | exact ⟨k + 1, OA, oc, by omega, by go_num, by rw [HP.out, HB.out]; simp, by rw [HP.out, HB.out]; obtain ⟨xh, xd, rfl⟩ := HB5.out; simpa using own_ext HO.out xh xd, HG.out.trans HB5.out⟩ | ((repeat apply Exists.intro); exact ⟨⟨k + 1, OA, oc, by omega, by go_num, by rw [HP.out, HB.out]; simp, by rw [HP.out, HB.out]; obtain ⟨xh, xd, rfl⟩ := HB5.out; simpa using own_ext HO.out xh xd, HG.out.trans HB5.out⟩, rfl⟩)
            case measure => simp [intOf]; omega
          ·
            go_upto_region 5 with fail
            refine wp_region_segs [([true, true], [false, false, true]), ([false, false, false, true, true, true, true, true, true, true, true, true, true, true, true, true, false, true, true, true, true, true, true, true, false, true], [false, false, false, false, false, false, false, false, false, false, false, false, false, false, false, false, true]), ([], [false, false, false, false, false, false, false, false, false, false, false, false, false, false, false, false, false, false, false, false, false, false, false, false, true]), ([], [false, false, false, false, false, false, false, false, false, false, false, false, false, false, false, false, false, false, false, false, false, false, false, false, false, false, true])] [false, false, false, false, false, false, false, false, false, false, false, false, false, false, false, false, false, false, false, false, false, false, false, false, false, false, false, true] (by kernel_rfl) (by kernel_rfl) ?_
            refine segs_cons ?_
            simp only [pick, pick1]
            repeat (go_big_quiet_step (fail))
            refine wpQuiet_nil ?_
            intro u1 HU1 K1 hKK1
            replace HU1 := Lib.hid (id (Up.grw HU1))
            go_wp2_with (go_at_call 37; refine (r45live_any l _ c B _ ((k : Int) + 1) (H.out.grw (HG.out.trans HU1.out)) hn).mono ?_; rintro e w' ⟨rfl, rfl⟩; rw [HLV.out])
            refine hKK1.out _ _ (Up.refl _) ?_
            clear hKK1
            obtain ⟨f1, l1⟩ := HSS.out _ HU1.out
            refine segs_cons ?_
            simp only [pick, pick1]
            repeat (go_big_quiet_step (fail))
            refine wpQuiet_nil ?_
            intro u2 HU2 K2 hKK2
            replace HU2 := Lib.hid (HU1.out.trans (Up.grw HU2))
            clear f1 l1
            go_wp2_with (go_at_call 21; refine (r45Roots_any l _ c B _ (H.out.grw (HG.out.trans HU2.out)) hn).mono ?_; rintro e V2 ⟨RA, rc, rfl, hq, hr⟩; have HR2 := Lib.hid (own_slb hr); have HQ2 := Lib.hid hq; have HB2 := Lib.hid (HU2.out.trans hq); clear hr hq)
            refine hKK2.out _ _ (Grw.up HQ2.out) ?_
            clear hKK2
            refine segs_cons ?_
            simp only [pick, pick1]
            repeat (go_big_quiet_step (fail))
            refine wpQuiet_nil ?_
            intro u3 HU3 K3 hKK3
            replace HU3 := Lib.hid (id (Up.grw HU3))
            go_wp2_with (go_at_call 23; refine (r45Reach_any l _ c B _ (rootsL l) RA rc _ o0 (H.out.grw (HG.out.trans (HB2.out.trans HU3.out))) hn (HR2.out.grw HU3.out) HRL.out).mono ?_; rintro e V3 ⟨ZA, zc, rfl, hq, hr⟩; have HR3 := Lib.hid (own_slb hr); have HQ3 := Lib.hid hq; have HB3 := Lib.hid (HB2.out.trans (HU3.out.trans hq)); clear hr hq)
            refine hKK3.out _ _ (Grw.up HQ3.out) ?_
            clear hKK3
            refine segs_cons ?_
            simp only [pick, pick1]
            repeat (go_big_quiet_step (fail))
            refine wpQuiet_nil ?_
            intro u4 HU4 K4 hKK4
            replace HU4 := Lib.hid (id (Up.grw HU4))
            go_wp2_with (go_at_call 41; refine (r45has_any _ (reachL l (rootsL l) o0) ZA zc _ ((k : Int) + 1) (HR3.out.grw HU4.out) HZL.out).mono ?_; rintro e w' ⟨rfl, rfl⟩; rw [HAN.out])
            refine hKK4.out _ _ (Up.refl _) ?_
            clear hKK4
            refine segs_nil ?_
            simp only [pick]
            repeat (go_big_quiet_step (fail))
            refine wpQuiet_nil ?_
            intro u5 HU5
            replace HU5 := Lib.hid (id (Up.grw HU5))
            have HB5 := Lib.hid (HB3.out.trans (HU4.out.trans HU5.out))
            clear HU5 HU4 HB3 HB2
            have HO7 : Hid (u5.ownsRow w.heap.size 3 1 (.slice OA acc.length oc) acc.length (acc.map (Value.int .i64))) := Lib.hid (by obtain ⟨xh, xd, rfl⟩ := HB5.out; exact own_ext HO.out xh xd)
            have HG7 := Lib.hid (HG.out.trans HB5.out)
            have hsz8 := HG7.out.below.size
            go_wp2_with (first
              | (at_builtin
                 refine wpList_append_own _ rfl _ _ 39 rfl (w.heap.size) 3 i0 _ 1 8 Try.underlying39 hi hz0 hz1 hz2 rfl (by decide) (.slice OA acc.length oc) (acc.length) (acc.map (Value.int .i64)) rfl ((own_alloc HO7.out _)) ⟨u5.heap.size, 0, none⟩ 1 1 [.int .i64 ((k : Int) + 1)] rfl rfl ?c1 ?c2 ?c3 ?c4 ?c5 ?_
                 case c1 => exact news_alloc _ #[_] _ _ (by simp [wext_size])
                 case c2 => simp [Value.oneCell']
                 case c3 => unfold maxLen; omega
                 case c4 => omega
                 case c5 => simp [wext_size]; omega
                 intro v' w1 hown1 hgrow _
                 (have HN1 := Lib.hid hown1; have HGr := Lib.hid (show Grw w w1 by exact Grw.grown (row := (Value.slice OA acc.length oc).ownBlock) (by repeat (first | exact HG7.out | apply Grw.ext | apply Grw.alloc | apply Grw.drewN | apply Grw.drew)) hgrow (own_beyond HO7.out)); obtain ⟨g', cap', rfl⟩ := ownsRow_succ HN1.out; clear hown1 hgrow)))
            go_roundw
            case rel => first | exact ⟨k + 1, some ⟨g', 0, none⟩, cap', by omega, by go_num, by rw [HP.out, HB.out]; simp, by rw [HP.out, HB.out]; simpa using HN1.out, HGr.out⟩ | ((repeat apply Exists.intro); exact ⟨⟨k + 1, some ⟨g', 0, none⟩, cap', by omega, by go_num, by rw [HP.out, HB.out]; simp, by rw [HP.out, HB.out]; simpa using HN1.out, HGr.out⟩, rfl⟩)
            case measure => simp [intOf]; omega
        · have h0d : decide (0 < o0) = false := decide_eq_false h0
          have HB := Lib.hid (show wildB l k x = false by rw [HWB.out, h0d]; rfl)
          clear hd HWB
          go_upto_region 5 with fail
          refine wp_region_segs [([true, true], [false, false, true]), ([false, false, false, true, true, true, true, true, true, true, true, true, true, true, true, true, false, true, true, true, true, true, true, true, false, true], [false, false, false, false, false, false, false, false, false, false, false, false, false, false, false, false, true]), ([], [false, false, false, false, false, false, false, false, false, false, false, false, false, false, false, false, false, false, false, false, false, false, false, false, true]), ([], [false, false, false, false, false, false, false, false, false, false, false, false, false, false, false, false, false, false, false, false, false, false, false, false, false, false, true])] [false, false, false, false, false, false, false, false, false, false, false, false, false, false, false, false, false, false, false, false, false, false, false, false, false, false, false, true] (by kernel_rfl) (by kernel_rfl) ?_
          refine segs_cons ?_
          simp only [pick, pick1]
          repeat (go_big_quiet_step (fail))
          refine wpQuiet_nil ?_
          intro u1 HU1 K1 hKK1
          replace HU1 := Lib.hid (id (Up.grw HU1))
          go_wp2_with (go_at_call 37; refine (r45live_any l _ c B _ ((k : Int) + 1) (H.out.grw (HG.out.trans HU1.out)) hn).mono ?_; rintro e w' ⟨rfl, rfl⟩; rw [HLV.out])
          refine hKK1.out _ _ (Up.refl _) ?_
          clear hKK1
          obtain ⟨f1, l1⟩ := HSS.out _ HU1.out
          refine segs_cons ?_
          simp only [pick, pick1]
          repeat (go_big_quiet_step (fail))
          refine wpQuiet_nil ?_
          intro u2 HU2 K2 hKK2
          replace HU2 := Lib.hid (id (Up.grw HU2))
          go_wp2_with fail
          refine hKK2.out _ _ (Up.refl _) ?_
          clear hKK2
          clear f1 l1
          refine segs_cons ?_
          simp only [pick, pick1]
          repeat (go_big_quiet_step (fail))
          refine wpQuiet_nil ?_
          intro u3 HU3 K3 hKK3
          replace HU3 := Lib.hid (id (Up.grw HU3))
          go_wp2_with fail
          refine hKK3.out _ _ (Up.refl _) ?_
          clear hKK3
          refine segs_cons ?_
          simp only [pick, pick1]
          repeat (go_big_quiet_step (fail))
          refine wpQuiet_nil ?_
          intro u4 HU4 K4 hKK4
          replace HU4 := Lib.hid (id (Up.grw HU4))
          go_wp2_with fail
          refine hKK4.out _ _ (Up.refl _) ?_
          clear hKK4
          refine segs_nil ?_
          simp only [pick]
          repeat (go_big_quiet_step (fail))
          refine wpQuiet_nil ?_
          intro u5 HU5
          replace HU5 := Lib.hid (id (Up.grw HU5))
          have HB5 := Lib.hid (HU1.out.trans (HU2.out.trans (HU3.out.trans (HU4.out.trans HU5.out))))
          clear HU1 HU2 HU3 HU4 HU5
          go_wp2
          go_roundw
          case rel => first | exact ⟨k + 1, OA, oc, by omega, by go_num, by rw [HP.out, HB.out]; simp, by rw [HP.out, HB.out]; obtain ⟨xh, xd, rfl⟩ := HB5.out; simpa using own_ext HO.out xh xd, HG.out.trans HB5.out⟩ | ((repeat apply Exists.intro); exact ⟨⟨k + 1, OA, oc, by omega, by go_num, by rw [HP.out, HB.out]; simp, by rw [HP.out, HB.out]; obtain ⟨xh, xd, rfl⟩ := HB5.out; simpa using own_ext HO.out xh xd, HG.out.trans HB5.out⟩, rfl⟩)
          case measure => simp [intOf]; omega
      · rw [hd] at HLV HWB
        have HB := Lib.hid (show wildB l k x = false by rw [HWB.out]; rfl)
        clear hd HWB
        go_upto_region 5 with fail
        refine wp_region_segs [([true, true], [false, false, true]), ([false, false, false, true, true, true, true, true, true, true, true, true, true, true, true, true, false, true, true, true, true, true, true, true, false, true], [false, false, false, false, false, false, false, false, false, false, false, false, false, false, false, false, true]), ([], [false, false, false, false, false, false, false, false, false, false, false, false, false, false, false, false, false, false, false, false, false, false, false, false, true]), ([], [false, false, false, false, false, false, false, false, false, false, false, false, false, false, false, false, false, false, false, false, false, false, false, false, false, false, true])] [false, false, false, false, false, false, false, false, false, false, false, false, false, false, false, false, false, false, false, false, false, false, false, false, false, false, false, true] (by kernel_rfl) (by kernel_rfl) ?_
        refine segs_cons ?_
        simp only [pick, pick1]
        repeat (go_big_quiet_step (fail))
        refine wpQuiet_nil ?_
        intro u1 HU1 K1 hKK1
        replace HU1 := Lib.hid (id (Up.grw HU1))
        go_wp2_with (go_at_call 37; refine (r45live_any l _ c B _ ((k : Int) + 1) (H.out.grw (HG.out.trans HU1.out)) hn).mono ?_; rintro e w' ⟨rfl, rfl⟩; rw [HLV.out])
        refine hKK1.out _ _ (Up.refl _) ?_
        clear hKK1
        obtain ⟨f1, l1⟩ := HSS.out _ HU1.out
        refine segs_cons ?_
        simp only [pick, pick1]
        repeat (go_big_quiet_step (fail))
        refine wpQuiet_nil ?_
        intro u2 HU2 K2 hKK2
        replace HU2 := Lib.hid (id (Up.grw HU2))
        go_wp2_with fail
        refine hKK2.out _ _ (Up.refl _) ?_
        clear hKK2
        clear f1 l1
        refine segs_cons ?_
        simp only [pick, pick1]
        repeat (go_big_quiet_step (fail))
        refine wpQuiet_nil ?_
        intro u3 HU3 K3 hKK3
        replace HU3 := Lib.hid (id (Up.grw HU3))
        go_wp2_with fail
        refine hKK3.out _ _ (Up.refl _) ?_
        clear hKK3
        refine segs_cons ?_
        simp only [pick, pick1]
        repeat (go_big_quiet_step (fail))
        refine wpQuiet_nil ?_
        intro u4 HU4 K4 hKK4
        replace HU4 := Lib.hid (id (Up.grw HU4))
        go_wp2_with fail
        refine hKK4.out _ _ (Up.refl _) ?_
        clear hKK4
        refine segs_nil ?_
        simp only [pick]
        repeat (go_big_quiet_step (fail))
        refine wpQuiet_nil ?_
        intro u5 HU5
        replace HU5 := Lib.hid (id (Up.grw HU5))
        have HB5 := Lib.hid (HU1.out.trans (HU2.out.trans (HU3.out.trans (HU4.out.trans HU5.out))))
        clear HU1 HU2 HU3 HU4 HU5
        go_wp2
        go_roundw
        case rel => first | exact ⟨k + 1, OA, oc, by omega, by go_num, by rw [HP.out, HB.out]; simp, by rw [HP.out, HB.out]; obtain ⟨xh, xd, rfl⟩ := HB5.out; simpa using own_ext HO.out xh xd, HG.out.trans HB5.out⟩ | ((repeat apply Exists.intro); exact ⟨⟨k + 1, OA, oc, by omega, by go_num, by rw [HP.out, HB.out]; simp, by rw [HP.out, HB.out]; obtain ⟨xh, xd, rfl⟩ := HB5.out; simpa using own_ext HO.out xh xd, HG.out.trans HB5.out⟩, rfl⟩)
        case measure => simp [intOf]; omega
    · obtain rfl : k = l.length := by omega
      have HT := Lib.hid (List.take_of_length_le (Nat.le_refl l.length))
      rw [HT.out] at hown ⊢
      have HO := Lib.hid hown
      have HG := Lib.hid hg
      clear hown hg
      go_wp2
      go_ret
      exact ⟨_, _, rfl, HG.out, HO.out⟩
end
end Go.Proofs.Ytgjpbhgobjlneaa
