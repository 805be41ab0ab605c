/- The contract of path.Way. Conditions: fewer than a million objects; the numbers handed in are ints. -/
import Derived.Test.YtgjpbhgobjlneaaPath6
import Derived.Deep.DeepCutAuto
namespace Go.Proofs.Ytgjpbhgobjlneaa
open Go.RowKit Go.Sort
theorem own_slb {W : World} {base c : Nat} {A : Option Addr} {xs : List Int} (h : W.ownsRow base 3 1 (.slice A xs.length c) xs.length (xs.map (Value.int .i64))) : SlB intC 1 W W.heap.size A xs := by
  rcases h.2 with ⟨h1, h0⟩ | ⟨g, cap, cur, h1, _, hg, _⟩
  · exact .inl (List.length_eq_zero_iff.1 h0)
  · injection h1 with e1 e2 e3
    subst e1; subst e3
    have hlt := (Array.getElem?_eq_some_iff.1 hg).1
    refine .inr ⟨g, 0, rfl, hlt, hlt, fun i x hx j u hu => ?_⟩
    have hi := (List.getElem?_eq_some_iff.1 hx).1
    match j, hu with
    | 0, hu =>
      have hu : some (Value.int .i64 x) = some u := hu
      injection hu with hu
      subst hu
      have := h.cellAt i (by omega)
      rw [show 0 + i * 1 + 0 = i by omega, this]
      simp [hx]
    | j + 1, hu => simp [intC] at hu
theorem rootsL_len (l : List Cl) : (rootsL l).length ≤ l.length := rootsTo_len0 l 0
theorem rootsL_wf {l : List Cl} (hn : l.length ≤ 1000000) : ∀ a ∈ rootsL l, (Lit.int .i64 a).wf = true := fun _ ha => live_wf hn (rootsL_live ha)
theorem reverse_any (W : World) (base : Nat) (xs : List Int) (A : Option Addr) (c : Nat) (ho : W.ownsRow base 3 1 (.slice A xs.length c) xs.length (xs.map (Value.int .i64))) (hn : xs.length ≤ 9000000) :
    Calls Try.prog 43 #[.slice A xs.length c] W fun e W' => e = .returned (.tuple #[]) ∧ W'.ownsRow base 3 1 (.slice A xs.length c) xs.length ((xs.reverse).map (Value.int .i64)) ∧ W.grownBy W' (Value.slice A xs.length c).ownBlock := by
  rcases ho.2 with ⟨h, h0⟩ | ⟨g, cap, cur, h, hb, hg, h1, h2, h3, h4⟩
  · injection h with e1 e2 e3
    subst e1
    obtain rfl : xs = [] := List.length_eq_zero_iff.1 h0
    refine (Try.slices_Reverse_int_empty none c W).mono ?_
    rintro e W' ⟨rfl, rfl⟩
    exact ⟨rfl, by simpa using ho, ⟨rfl, rfl, rfl, Nat.le_refl _, fun _ _ _ => rfl⟩⟩
  · injection h with e1 e2 e3
    subst e1
    subst e3
    refine (Try.slices_Reverse_int g 0 c xs W (holds_of_blockI hg (by simpa using h4)) (by omega)).mono ?_
    rintro e W' ⟨rfl, n, rfl⟩
    have := ownsRow_sortedI (w := W) (n := n) (os := #[]) (ss := xs) (ts := xs.reverse) (by simp) hb hg h1 h2 h3
    rw [grow_empty] at this
    have hgr := grownBy_sortedI (w := W) (g := g) (n := n) (os := #[]) xs.reverse.toArray
    rw [grow_empty] at hgr
    exact ⟨rfl, this, hgr⟩
theorem map_row {P : Program} {k : TypeId} {n : Nat} {f : Int → Option Value} {W : World} {b : Nat} (h : IM P k W b n f) {base size k' : Nat} {e : TypeId} {v : Value} {xs : List Value} (hr : W.ownsRow base e size v k' xs) : some b ≠ v.ownBlock := by
  obtain ⟨D, ⟨es, clock, hb, _⟩, _⟩ := h
  rcases hr.2 with ⟨rfl, _⟩ | ⟨g, cap, cur, rfl, _, hgb, _⟩
  · simp [Value.ownBlock]
  · intro e'
    obtain rfl : b = g := by simpa [Value.ownBlock] using e'
    rw [hb] at hgb; cases hgb
theorem idx_at {l : List Cl} {ar : Int} {st : List (Int × Int)} (h : Neat l ar st) {i : Nat} {p : Int × Int} (hp : st[i]? = some p) : (st.findIdx fun q => q.1 == p.1) = i := by
  obtain ⟨hi, hpe⟩ := List.getElem?_eq_some_iff.1 hp
  rw [List.findIdx_eq hi]
  refine ⟨by rw [hpe]; simp, fun j hj => ?_⟩
  have := List.pairwise_iff_getElem.1 (List.nodup_iff_pairwise_ne.1 h.1) j i (by simp; omega) (by simpa using hi) hj
  simp at this
  rw [hpe] at this
  simpa using this
theorem seen_at {st : List (Int × Int)} {t : Int} (h : seen st t = true) : ∃ (i : Nat) (p : Int × Int), st[i]? = some p ∧ p.1 = t := by
  obtain ⟨p, hp, e⟩ := List.any_eq_true.1 h
  obtain ⟨i, hi⟩ := List.mem_iff_getElem?.1 hp
  exact ⟨i, p, hi, by simpa using e⟩
section
variable (l : List Cl) (A : Option Addr) (c B : Nat) (w : World)
set_option maxRecDepth 100000 in
set_option maxHeartbeats 4000000 in
theorem pWay_any (tx ar : Int) (h : Hp w B A l) (hn : l.length ≤ 1000000) (hto : (Lit.int .i64 tx).wf = true) : Calls Try.prog 24 #[.slice A l.length c, .int .i64 tx, .int .i64 ar] w (IntsPost (wayL l tx ar) w) := by
  have H := Lib.hid h
  have HRL := Lib.hid (Nat.le_trans (rootsL_len l) hn)
  have HRW := Lib.hid (rootsL_wf hn)
  obtain ⟨W0, hW0⟩ : ∃ W0, w.alloc (.cells #[.slice A l.length c] 38) = W0 := ⟨_, rfl⟩
  have HB0 := Lib.hid (show Boxed W0 w.heap.size 38 (.slice A l.length c) by rw [← hW0]; exact Boxed.new _ _ _)
  have HG0 := Lib.hid (show Grw w W0 by rw [← hW0]; exact (Grw.refl _).alloc _)
  have HSS : Hid (∀ w', Grw W0 w' → (fun w' => w'.cell? ⟨w.heap.size, 0, none⟩ = some (.slice A l.length c) ∧ Grw W0 w') w') := Lib.hid fun w' hg' => ⟨Boxed.cell ((hg'.below.block _ HB0.out.lt).trans HB0.out), hg'⟩
  obtain ⟨sp, hR⟩ : ∃ sp, spreadL l (rootsL l) ar (sNamesL l) = sp := ⟨_, rfl⟩
  have HR := Lib.hid hR
  have HNE := Lib.hid (show Neat l ar sp by rw [← hR]; exact Neat.spread _ _ _ _)
  have HBI := Lib.hid (show ByIn sp by rw [← hR]; exact ByIn.spread _ _ _ _)
  have HWL := Lib.hid (show wayL l tx ar = wayBy sp tx by unfold wayL; rw [hR])
  have HZ := Lib.hid (show ∀ u : World, (zeroValue 3).run Try.prog u = .ok (.int .i64 0) u from fun u => Try.zeroValue3 u)
  clear h hR
  go_enter Try.func24, Try.ntmps24
  go_upto_region 2 with fail
  clear hW0
  go_cut [8, 9] (fun s8 s9 wx => ∃ (mb : Nat) (OA : Option Addr) (oc : Nat), s8 = .map (some mb) ∧ s9 = .slice OA sp.length oc ∧ IM Try.prog 3 wx mb sp.length (byF sp) ∧ Grw W0 wx)
  case first =>
    have c0 := HB0.out.cell
    go_region_held3 (fun w' => w'.cell? ⟨w.heap.size, 0, none⟩ = some (.slice A l.length c) ∧ Grw W0 w') (exact HSS.out _ (by first | assumption | exact (Grw.refl _).drew))
      (first
        | (go_at_call 20; refine (pRoots_any l A c B _ (H.out.grw (HG0.out.trans (by first | assumption | exact (Grw.refl _).drew))) hn).mono ?_; rintro e w5 ⟨A3, c3, rfl, hq5, hr3⟩; have hx5 : Grw W0 w5 := Grw.trans (by first | assumption | exact (Grw.refl _).drew) hq5; have HR3 := Lib.hid hr3; clear hr3)
        | (go_at_call 38; refine (spreadW_any l A c B _ w.heap.size (rootsL l) A3 c3 _ ar (H.out.grw (HG0.out.trans hx5)) hn (own_slb HR3.out) HRL.out HRW.out ((hx5.below.block _ HB0.out.lt).trans HB0.out)).mono ?_; rintro e w6 ⟨OA, oc, rfl, hi6, ho6, hq6⟩; rw [HR.out] at hi6 ⊢; have hx6 : Grw W0 w6 := hx5.trans hq6; have HI6 := Lib.hid hi6; clear hi6 ho6))
    all_goals go_wp2_with fail
    all_goals go_meet
    all_goals exact ⟨_, _, _, rfl, rfl, HI6.out, hx6⟩
  case rest =>
    obtain ⟨mb, OA, oc, rfl, rfl, hi6, hg6⟩ := hcut
    have HI := Lib.hid hi6
    have HG := Lib.hid (HG0.out.trans hg6)
    have hsn := byF_some sp tx
    clear hi6 hg6 HSS HB0 HG0
    cases hse : seen sp tx
    · rw [hse] at hsn
      have T1 : Hid (byF sp tx = none) := Lib.hid (by cases hx : byF sp tx with | none => rfl | some _ => rw [hx] at hsn; cases hsn)
      have HW := Lib.hid (show wayL l tx ar = [] by rw [HWL.out]; unfold wayBy; rw [hse]; rfl)
      clear hse hsn
      go_wp2_with (at_lookup; refine wpList_look _ rfl _ _ 56 rfl 3 3 Try.underlying3 Try.underlying56 (HZ.out _) _ _ _ rfl HI.out _ hto rfl ?_; rw [T1.out])
      go_ret
      exact ⟨none, 0, by rw [HW.out]; rfl, HG.out, by rw [HW.out]; exact World.ownsRow_nil _ _ _ _⟩
    · obtain ⟨i, p, hp, htp⟩ := seen_at hse
      have HW := Lib.hid (show wayL l tx ar = (climbL sp sp.length tx).reverse by rw [HWL.out]; unfold wayBy; rw [hse]; rfl)
      have T1 := Lib.hid (show byF sp tx = some (.int .i64 p.2) by rw [← htp]; exact byF_at HNE.out hp)
      have HP := Lib.hid hp
      have HTP := Lib.hid htp
      obtain ⟨i0, hi, hz0, hz1, hz2⟩ := info_parts infoI
      clear hse hsn hp htp
      go_wp2_with (at_lookup; refine wpList_look _ rfl _ _ 56 rfl 3 3 Try.underlying3 Try.underlying56 (HZ.out _) _ _ _ rfl HI.out _ hto rfl ?_; rw [T1.out])
      go_loopw [1, 12] (fun t out wr => ∃ (i : Nat) (p : Int × Int) (xs : List Int) (XA : Option Addr) (xc : Nat), sp[i]? = some p ∧ t = .int .i64 p.1 ∧ out = .slice XA xs.length xc ∧ wr.ownsRow w.heap.size 3 1 (.slice XA xs.length xc) xs.length (xs.map (Value.int .i64)) ∧ xs ++ (climbL sp sp.length p.1).tail = climbL sp sp.length tx ∧ Grw w wr ∧ IM Try.prog 3 wr mb sp.length (byF sp)) (fun t _ _ => sp.findIdx fun q => q.1 == intOf t)
      case atStart =>
        refine ⟨i, p, [tx], _, 1, HP.out, by rw [HTP.out], rfl, World.ownsRow_lit _ #[.int .i64 tx] 1 HG.out.below.size (by decide) rfl, ?_, HG.out.alloc _, HI.out.alloc _⟩
        obtain ⟨r, hr⟩ := climb_head sp sp.length tx
        rw [HTP.out, hr]; rfl
      case round =>
        obtain ⟨i, p, xs, XA, xc, hp, rfl, rfl, ho, hxs, hg, hi7⟩ := hrel
        have T2 := Lib.hid (byF_at HNE.out hp)
        have HPW := Lib.hid (small_wf hn (HNE.out.2 p (List.mem_of_getElem? hp)))
        have HI7 := Lib.hid hi7
        have HG7 := Lib.hid hg
        have HO := Lib.hid ho
        have hszw := hg.below.size
        have hxl : xs.length ≤ 2000000 := by
          have h1 := climb_len sp sp.length tx
          have h2 := HNE.out.len
          rw [← hxs, List.length_append] at h1
          omega
        by_cases hst : p.2 = p.1
        · have e0 : ((p.2 : Int) != p.1) = false := by simp [hst]
          have HX : Hid (xs = climbL sp sp.length tx) := Lib.hid (by rw [← hxs, climb_stop HNE.out hp hst]; simp)
          clear hp ho hxs hg hi7 hst
          go_wp2_with (first
            | (at_lookup; refine wpList_look1 _ rfl _ _ 56 rfl 3 3 Try.underlying3 Try.underlying56 (HZ.out _) _ _ _ rfl HI7.out _ HPW.out rfl ?_; rw [T2.out])
            | (go_at_call 43; refine (reverse_any _ _ _ _ _ HO.out (by omega)).mono ?_; rintro e w'' ⟨rfl, ho', hgr⟩; have HO' := Lib.hid ho'; have HG' := Lib.hid (Grw.grown HG7.out hgr (own_beyond HO.out)); clear ho' hgr))
          go_ret
          exact ⟨_, _, by rw [HW.out, ← HX.out, List.length_reverse]; rfl, HG'.out, by rw [HW.out, ← HX.out, List.length_reverse]; exact HO'.out⟩
        · have e0 : ((p.2 : Int) != p.1) = true := by simp [hst]
          obtain ⟨j, q, hj, hq, hqp, hcl⟩ := climb_on HNE.out HBI.out hp hst
          have HQ : Hid ((xs ++ [p.2]) ++ (climbL sp sp.length q.1).tail = climbL sp sp.length tx) := Lib.hid (by
            rw [← hxs, hcl, ← hqp]
            obtain ⟨r, hr⟩ := climb_head sp sp.length q.1
            rw [hr]; simp)
          have HQ1 := Lib.hid hq
          have HQP := Lib.hid hqp
          have HM : Hid ((sp.findIdx fun z => z.1 == p.2) < sp.findIdx fun z => z.1 == p.1) := Lib.hid (by rw [← hqp, idx_at HNE.out hq, idx_at HNE.out hp]; exact hj)
          clear hp ho hxs hg hi7 hst hj hq hqp hcl
          go_wp2_with (first
            | (at_lookup; refine wpList_look1 _ rfl _ _ 56 rfl 3 3 Try.underlying3 Try.underlying56 (HZ.out _) _ _ _ rfl HI7.out _ HPW.out rfl ?_; rw [T2.out])
            | (at_builtin
               refine wpList_append_own _ rfl _ _ 39 rfl (w.heap.size) 3 i0 _ 1 8 Try.underlying39 hi hz0 hz1 hz2 rfl (by decide) (.slice XA xs.length xc) (xs.length) (xs.map (Value.int .i64)) rfl ((own_alloc HO.out _)) ⟨wr.heap.size, 0, none⟩ 1 1 [.int .i64 p.2] rfl rfl ?c1 ?c2 ?c3 ?c4 ?c5 ?_
               case c1 => exact news_alloc _ #[_] _ _ (by simp [wext_size])
               case c2 => simp [Value.oneCell']
               case c3 => unfold maxLen; omega
               case c4 => omega
               case c5 => simp [wext_size]; omega
               intro v' w1 hown1 hgrow _
               (have HN1 := Lib.hid hown1; have HGr := Lib.hid (show Grw w w1 by exact Grw.grown (row := (Value.slice XA xs.length xc).ownBlock) (HG7.out.alloc _) hgrow (own_beyond HO.out)); have HIN := Lib.hid ((HI7.out.alloc _).grown hgrow (map_row HI7.out HO.out)); obtain ⟨g', cap', rfl⟩ := ownsRow_succ HN1.out; clear hown1 hgrow)))
          go_roundw
          case rel => exact ⟨j, q, xs ++ [p.2], some ⟨g', 0, none⟩, cap', HQ1.out, by rw [HQP.out], by simp, by simpa using HN1.out, HQ.out, HGr.out, HIN.out⟩
          case measure => exact HM.out
end
end Go.Proofs.Ytgjpbhgobjlneaa
