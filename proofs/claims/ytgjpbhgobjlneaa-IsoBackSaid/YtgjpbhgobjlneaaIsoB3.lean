/- The law IsoBack. Conditions: none. -/
import Derived.Test.YtgjpbhgobjlneaaIsoB2
namespace Go.Proofs.Ytgjpbhgobjlneaa
open Go.RowKit
theorem okA_ok {e : Ev} (h : e.okA) : e.ok := by
  intro x hx
  rw [← e.offs_nums] at hx
  obtain ⟨o, _, rfl⟩ := List.mem_map.1 hx
  exact h o
theorem holdL_pok {ps qs : List (Int × Int)} {a b : Int} (h : holdL ps a b = some qs) (hp : PairsOk ps) (ha : (Lit.int .i64 a).wf = true) (hb : (Lit.int .i64 b).wf = true) : PairsOk qs := by
  unfold holdL at h
  split at h
  · cases h
  · split at h
    · injection h with h; subst h; exact hp
    · split at h
      · split at h
        · injection h with h; subst h; exact hp
        · cases h
      · injection h with h; subst h
        intro p hq
        rcases List.mem_append.1 hq with hq | hq
        · exact hp p hq
        · rw [List.mem_singleton.1 hq]; exact ⟨ha, hb⟩
theorem foldH_pok : ∀ {l ps qs : List (Int × Int)}, foldH ps l = some qs → PairsOk ps → (∀ p ∈ l, (Lit.int .i64 p.1).wf = true ∧ (Lit.int .i64 p.2).wf = true) → PairsOk qs
  | [], ps, qs, h, hp, _ => by simp [foldH] at h; subst h; exact hp
  | (a, b) :: r, ps, qs, h, hp, hl => by
    simp only [foldH, Option.bind_eq_some_iff] at h
    obtain ⟨rs, h1, h2⟩ := h
    exact foldH_pok h2 (holdL_pok h1 hp (hl (a, b) (by simp)).1 (hl (a, b) (by simp)).2) (fun p hq => hl p (by simp [hq]))
theorem foldE_pok : ∀ {l : List (Ev × Ev)} {ps qs : List (Int × Int)}, foldE ps l = some qs → PairsOk ps → (∀ p ∈ l, p.1.ok ∧ p.2.ok) → PairsOk qs
  | [], ps, qs, h, hp, _ => by simp [foldE] at h; subst h; exact hp
  | (a, b) :: r, ps, qs, h, hp, hl => by
    simp only [foldE, Option.bind_eq_some_iff] at h
    obtain ⟨rs, h1, h2⟩ := h
    refine foldE_pok h2 ?_ (fun p hq => hl p (by simp [hq]))
    unfold evL at h1
    split at h1
    · refine foldH_pok h1 hp fun p hq => ?_
      obtain ⟨j, hj⟩ := List.getElem?_of_mem hq
      rw [List.getElem?_zip_eq_some] at hj
      exact ⟨(hl (a, b) (by simp)).1 _ (List.mem_of_getElem? hj.1), (hl (a, b) (by simp)).2 _ (List.mem_of_getElem? hj.2)⟩
    · cases h1
theorem match_pok {a b : List Ev} {m : List (Int × Int)} (h : matchL a b = some m) (ha : ∀ e ∈ a, e.ok) (hb : ∀ e ∈ b, e.ok) : PairsOk m := by
  unfold matchL at h
  split at h
  · refine foldE_pok h (by intro p hp; cases hp) fun p hp => ?_
    obtain ⟨j, hj⟩ := List.getElem?_of_mem hp
    rw [List.getElem?_zip_eq_some] at hj
    exact ⟨ha _ (List.mem_of_getElem? hj.1), hb _ (List.mem_of_getElem? hj.2)⟩
  · cases h
theorem match_len {a b : List Ev} {m : List (Int × Int)} (h : matchL a b = some m) : m.length ≤ 7 * a.length ∧ a.length = b.length := by
  unfold matchL at h
  split at h
  · have := foldE_len h
    rw [List.length_zip] at this
    simp at this
    omega
  · cases h
theorem pok_swap {m : List (Int × Int)} (h : PairsOk m) : PairsOk (swapP m) := by
  intro p hp
  obtain ⟨x, hx, rfl⟩ := List.mem_map.1 hp
  exact ⟨(h x hx).2, (h x hx).1⟩
@[go_sem] theorem eq_arr4 (w : World) (d : Nat) (a b c f a' b' c' f' : Int) : (Op.equalIn (d + 2) 33 (.agg #[.int .i64 a, .int .i64 b, .int .i64 c, .int .i64 f]) (.agg #[.int .i64 a', .int .i64 b', .int .i64 c', .int .i64 f'])).run Try.prog w = .ok (a == a' && (b == b' && (c == c' && f == f'))) w := by
  obtain ⟨i0, hi, _, hz1, _⟩ := info_parts info_int
  exact run_eqArr4 (P := Try.prog) w d 33 3 .i64 .i64 i0 a b c f a' b' c' f' Try.underlying33 Try.underlying3 hi hz1
@[go_sem] theorem guard_ev (w : World) (op : BinOp) (x y : Operand) (xs ys : Array Value) : (eqGuard op 35 x y (.agg xs) (.agg ys)).run Try.prog w = .ok () w := run_eqGuard_agg w op _ x y xs ys (by kernel_rfl)
theorem applyR_made {m : List (Int × Int)} {x y : Ev} (h : appL m x = (y, true)) : applyR m x = y ∧ (appL m x).2 = true := by
  unfold applyR; rw [h]; exact ⟨rfl, rfl⟩
section
variable (a b : List Ev) (A1 A2 : Option Addr) (c1 c2 : Nat) (w : World)
set_option maxRecDepth 100000 in
set_option maxHeartbeats 1000000 in
theorem law44Back_far (h : 100 < a.length ∨ 100 < b.length) (hn : a.length ≤ 9223372036854775807) (hm : b.length ≤ 9223372036854775807) : Calls Try.prog 4 #[.slice A1 a.length c1, .slice A2 b.length c2] w fun e w' => e = .returned (.bool true) ∧ Grw w w' := by
  have hcs : (100 : Int) < (a.length : Int) ∨ ((a.length : Int) ≤ 100 ∧ (100 : Int) < (b.length : Int)) := by omega
  clear h
  rcases hcs with h1 | ⟨h1, h2⟩
  all_goals
    go_enter Try.func4, Try.ntmps4
    go_wp2_with (go_at_call 9; refine (awake44 _).mono ?_; rintro e w1 ⟨rfl, hq⟩)
    go_ret
    exact ⟨rfl, Grw.trans (by repeat (first | exact Grw.refl _ | apply Grw.ext | apply Grw.alloc | apply Grw.drewN | apply Grw.drew)) hq⟩
set_option maxRecDepth 100000 in
set_option maxHeartbeats 1000000 in
theorem law44Back_near (hn : a.length ≤ 100) (hm : b.length ≤ 100) (h1 : SlB Ev.cells 10 w w.heap.size A1 a) (h2 : SlB Ev.cells 10 w w.heap.size A2 b) (hok : ∀ e ∈ a, e.okA) (hok2 : ∀ e ∈ b, e.okA) :
    Calls Try.prog 4 #[.slice A1 a.length c1, .slice A2 b.length c2] w fun e w' => e = .returned (.bool true) ∧ Grw w w' := by
  have f1 : (a.length : Int) ≤ 100 := by omega
  have f2 : (b.length : Int) ≤ 100 := by omega
  have H1 := Lib.hid h1
  have H2 := Lib.hid h2
  have HO1 := Lib.hid hok
  have HO2 := Lib.hid hok2
  have HK1 : Hid (∀ e ∈ a, e.ok) := Lib.hid (fun e he => okA_ok (hok e he))
  have HK2 : Hid (∀ e ∈ b, e.ok) := Lib.hid (fun e he => okA_ok (hok2 e he))
  clear h1 h2 hok hok2
  obtain ⟨qs, hqs, hd⟩ := match_self a
  have HQ := Lib.hid hqs
  have HD := Lib.hid hd
  clear hqs hd
  go_enter Try.func4, Try.ntmps4
  go_wp2_with fail
  refine (iMatch_any a a A1 A1 c1 c1 _ H1.out H1.out HK1.out HK1.out hn).mono ?_
  rintro e w1 ⟨A3, c3, rfl, hg, how⟩
  rw [HQ.out] at how ⊢
  simp only [Option.getD_some, Option.isSome_some] at how ⊢
  have HG := Lib.hid hg
  have HS := Lib.hid (SlB.lift ((Sl.of_own (enc := pairC) (fun _ => rfl) (by omega) how).toB (Nat.le_refl _)))
  have hql : qs.length ≤ 700 := by have := (match_len HQ.out).1; omega
  clear hg how
  go_wp2
  go_loopw [7] (fun i wr => ∃ k q : Nat, k ≤ qs.length ∧ i = .int .i64 k ∧ wr = w1.drewN q) (fun i _ => qs.length - (intOf i).toNat)
  case atStart => exact ⟨0, 0, Nat.zero_le _, rfl, rfl⟩
  case round =>
    obtain ⟨k, q, hk, rfl, rfl⟩ := hrel
    by_cases hlt : k < qs.length
    · obtain ⟨p, hp⟩ : ∃ o, qs[k]? = some o := ⟨_, List.getElem?_eq_getElem hlt⟩
      obtain ⟨b1, ob, rfl, _, hbl, hc⟩ := HS.out.at_ hp
      have e0 := hc 0 _ rfl
      have e1 := hc 1 _ rfl
      simp only [Nat.add_zero] at e0
      have f3 : (k : Int) < (qs.length : Int) := by omega
      have hne : ((p.1 : Int) != p.2) = false := by have := HD.out p (List.mem_of_getElem? hp); simp [this]
      clear hc hp
      go_wp2
      go_quiet (fail)
      go_wp2
      go_roundw
      case rel => first | exact ⟨k + 1, _, by omega, by go_num, rfl⟩ | ((repeat apply Exists.intro); exact ⟨⟨k + 1, _, by omega, by go_num, rfl⟩, rfl⟩)
      case measure => simp [intOf]; omega
    · obtain rfl : k = qs.length := by omega
      go_wp2_with fail
      refine (iMatch_any a b A1 A2 c1 c2 _ (SlB.lift ((H1.out.grw HG.out).drewN q)) (SlB.lift ((H2.out.grw HG.out).drewN q)) HK1.out HK2.out hn).mono ?_
      rintro e w2 ⟨A4, c4, rfl, hg2, how2⟩
      have HG2 : Hid (Grw w w2) := Lib.hid (Grw.trans (HG.out.drewN q) hg2)
      cases hmm : matchL a b with
      | none =>
        rw [hmm] at how2
        simp only [Option.getD_none, Option.isSome_none, List.length_nil] at how2 ⊢
        clear hg2 how2 hmm
        go_wp2_with (go_at_call 9; refine (awake44 _).mono ?_; rintro e w4 ⟨rfl, hq4⟩)
        go_ret
        exact ⟨rfl, Grw.trans HG2.out hq4⟩
      | some ms =>
        rw [hmm] at how2
        simp only [Option.getD_some, Option.isSome_some] at how2 ⊢
        have HM := Lib.hid hmm
        have hml : ms.length ≤ 700 := by have := (match_len hmm).1; omega
        have HAB := Lib.hid (match_len hmm).2
        have HP := Lib.hid (match_pok hmm HK1.out HK2.out)
        have HS2 := Lib.hid (SlB.lift ((Sl.of_own (enc := pairC) (fun _ => rfl) (by omega) how2).toB (Nat.le_refl _)))
        clear hg2 how2 hmm
        go_wp2_with fail
        refine (turn_any ms A4 c4 _ HS2.out (by omega)).mono ?_
        rintro e w3 ⟨rfl, hg3, hs3⟩
        have HG3 : Hid (Grw w w3) := Lib.hid (Grw.trans HG2.out hg3)
        have HS3 := Lib.hid (SlB.lift (HS2.out.grw hg3))
        have HT3 := Lib.hid hs3
        clear hg3 hs3
        have HPS := Lib.hid (pok_swap HP.out)
        have hsl : (swapP ms).length = ms.length := by simp [swapP]
        have HSL := Lib.hid hsl
        clear hsl
        go_wp2
        go_loopw [11] (fun i wr => ∃ k : Nat, k ≤ a.length ∧ i = .int .i64 k ∧ Grw w3 wr) (fun i _ => a.length - (intOf i).toNat)
        case atStart => exact ⟨0, Nat.zero_le _, rfl, Grw.refl _⟩
        case round =>
          obtain ⟨k, hk, rfl, hgr⟩ := hrel
          by_cases hlt : k < a.length
          · obtain ⟨x, hx⟩ : ∃ o, a[k]? = some o := ⟨_, List.getElem?_eq_getElem hlt⟩
            obtain ⟨y, hy⟩ : ∃ o, b[k]? = some o := ⟨_, List.getElem?_eq_getElem (HAB.out ▸ hlt)⟩
            have HGR := Lib.hid hgr
            obtain ⟨hm1, hm2⟩ := match_made HM.out hx hy
            have HM1 := Lib.hid (applyR_made hm1)
            have HM2 := Lib.hid (applyR_made hm2)
            have HOX := Lib.hid (HO1.out x (List.mem_of_getElem? hx))
            have HOY := Lib.hid (HO2.out y (List.mem_of_getElem? hy))
            have hsa := (H1.out.grw (Grw.trans HG3.out hgr)).at_ hx
            have hsb := (H2.out.grw (Grw.trans HG3.out hgr)).at_ hy
            obtain ⟨b1, ob, rfl, _, hbl, hc⟩ := hsa
            obtain ⟨b2, ob', rfl, _, hbl', hc'⟩ := hsb
            have e0 := hc 0 _ rfl
            have e1 := hc 1 _ rfl
            have e2 := hc 2 _ rfl
            have e3 := hc 3 _ rfl
            have e4 := hc 4 _ rfl
            have e5 := hc 5 _ rfl
            have e6 := hc 6 _ rfl
            have e7 := hc 7 _ rfl
            have e8 := hc 8 _ rfl
            have e9 := hc 9 _ rfl
            simp only [Nat.add_zero] at e0
            have d0 := hc' 0 _ rfl
            have d1 := hc' 1 _ rfl
            have d2 := hc' 2 _ rfl
            have d3 := hc' 3 _ rfl
            have d4 := hc' 4 _ rfl
            have d5 := hc' 5 _ rfl
            have d6 := hc' 6 _ rfl
            have d7 := hc' 7 _ rfl
            have d8 := hc' 8 _ rfl
            have d9 := hc' 9 _ rfl
            simp only [Nat.add_zero] at d0
            have f3 : (k : Int) < (a.length : Int) := by omega
            have f4 : (k : Int) < (b.length : Int) := by have := HAB.out; omega
            clear hgr hm1 hm2 hx hy hc hc'
            go_wp2_with fail
            refine (apply_any ms A4 c4 x _ (SlB.lift (HS3.out.grw HGR.out)) HP.out HOX.out (by omega)).mono ?_
            rintro e w4 ⟨rfl, xh, xd, rfl⟩
            rw [HM1.out.1, HM1.out.2]
            simp only [Ev.arr]
            go_wp2_with fail
            have H4 := Lib.hid (show Grw w3 ((wext wr xh xd).alloc (.cells y.arr 35)) from (HGR.out.ext _ _).alloc _)
            have := apply_any (swapP ms) (some ⟨w2.heap.size, 0, none⟩) ms.length y ((wext wr xh xd).alloc (.cells y.arr 35)) (SlB.lift (HT3.out.grw H4.out)) HPS.out HOY.out (by rw [HSL.out]; omega)
            rw [HSL.out] at this
            refine this.mono ?_
            clear this
            rintro e w5 ⟨rfl, yh, yd, rfl⟩
            rw [HM2.out.1, HM2.out.2]
            simp only [Ev.arr]
            go_wp2
            go_quiet (fail)
            go_wp2
            go_roundw
            case rel => first | exact ⟨k + 1, by omega, by go_num, (by repeat (first | exact HGR.out | apply Grw.ext | apply Grw.alloc | apply Grw.drewN | apply Grw.drew))⟩ | ((repeat apply Exists.intro); exact ⟨⟨k + 1, by omega, by go_num, (by repeat (first | exact HGR.out | apply Grw.ext | apply Grw.alloc | apply Grw.drewN | apply Grw.drew))⟩, rfl⟩)
            case measure => simp [intOf]; omega
          · obtain rfl : k = a.length := by omega
            have HGR : Hid (Grw w wr) := Lib.hid (Grw.trans HG3.out hgr)
            have hbn : b.length ≤ 100 := hm
            have HSW := Lib.hid (show (matchL b a).isSome = true by rw [match_swap, HM.out]; rfl)
            clear hgr
            go_wp2_with fail
            refine (iMatch_any b a A2 A1 c2 c1 _ (SlB.lift (H2.out.grw HGR.out)) (SlB.lift (H1.out.grw HGR.out)) HK2.out HK1.out hbn).mono ?_
            rintro e w4 ⟨A5, c5, rfl, hg5, how5⟩
            rw [HSW.out]
            clear how5
            go_wp2_with (go_at_call 9; refine (awake44 _).mono ?_; rintro e w6 ⟨rfl, hq6⟩)
            go_ret
            exact ⟨rfl, Grw.trans HGR.out (Grw.trans hg5 hq6)⟩
end
end Go.Proofs.Ytgjpbhgobjlneaa
