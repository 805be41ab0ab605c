/- The law PathCalm. Conditions: the numbers are ints. -/
import Derived.Test.YtgjpbhgobjlneaaPath22
namespace Go.Proofs.Ytgjpbhgobjlneaa
open Go.RowKit Go.Sort
section
variable (l : List Cl) (A : Option Addr) (c B : Nat) (w : World)
set_option maxRecDepth 100000 in
set_option maxHeartbeats 1000000 in
theorem law45Calm_far (cl : Int) (h1 : SlB Cl.cells 7 w w.heap.size A l) (hn : l.length ≤ 9223372036854775807) (hg : greatL l = true) : Calls Try.prog 8 #[.slice A l.length c, .int .i64 cl] w fun e w' => e = .returned (.bool true) ∧ Grw w w' := by
  have H := Lib.hid h1
  have HG := Lib.hid hg
  clear h1 hg
  go_enter Try.func8, Try.ntmps8
  go_wp2_with (first
    | (go_at_call 15; refine (l45great_any l A c _ w H.out hn).mono ?_; rintro e w' ⟨rfl, rfl⟩; rw [HG.out])
    | (go_at_call 16; refine (awake45 _).mono ?_; rintro e w' ⟨rfl, hg⟩; have HQ := Lib.hid hg; clear hg))
  go_ret
  exact ⟨rfl, HQ.out⟩
set_option maxRecDepth 100000 in
set_option maxHeartbeats 8000000 in
theorem law45Calm_near (cl : Int) (h : Hp w w.heap.size A l) (hn : l.length ≤ 25) (how : ∀ c ∈ l, (Lit.int .i64 c.o0).wf = true) (hg : greatL l = false) : Calls Try.prog 8 #[.slice A l.length c, .int .i64 cl] w fun e w' => e = .returned (.bool true) ∧ Grw w w' := by
  have H := Lib.hid h
  have HG := Lib.hid hg
  have hn' : l.length ≤ 1000000 := by omega
  have HOW := Lib.hid how
  have HNL := Lib.hid (fun a => namesL_len h a)
  clear h hg how
  go_enter Try.func8, Try.ntmps8
  go_upto_region 1 with fail
  go_cut [15] (fun s wx => ∃ b : Bool, s = .bool b ∧ Grw w wx)
  case first =>
    go_wp2_with (first
      | (go_at_call 15; refine (l45great_any l A c _ w H.out.1 (by omega)).mono ?_; rintro e w' ⟨rfl, rfl⟩; rw [HG.out])
      | (go_at_call 29; refine (right_any l A c _ _ cl H.out hn').mono ?_; rintro e V1 ⟨r, rfl, hq⟩; have HQ := Lib.hid hq; clear hq))
    go_meet
    exact ⟨_, rfl, HQ.out⟩
  case rest =>
    obtain ⟨b, rfl, hgc⟩ := hcut
    have HGC := Lib.hid hgc
    clear hgc
    cases b
    · go_wp2
      go_loopw [5] (fun a wr => ∃ k : Nat, a = .int .i64 ((k : Int) + 1) ∧ k ≤ l.length ∧ Grw w wr ∧ ∀ i : Nat, i < k → ∀ u ∈ namesL l ((i : Int) + 1), Ins l ((i : Int) + 1) (upL l u)) (fun a _ => l.length + 1 - (intOf a).toNat)
      case atStart => exact ⟨0, rfl, Nat.zero_le _, HGC.out, fun i hi => by omega⟩
      case round =>
        clear HGC
        obtain ⟨V1, rfl⟩ : ∃ V, V = wr := ⟨_, rfl⟩
        obtain ⟨k, rfl, hk, hg, hall⟩ := hrel
        have HG1 := Lib.hid hg
        have HALL := Lib.hid hall
        clear hg hall
        by_cases hlt : k < l.length
        · have g3 : (k : Int) < (l.length : Int) := by omega
          have g4 : decide ((k : Int) + 1 ≤ (l.length : Int)) = true := decide_eq_true (by omega)
          go_wp2_with (go_at_call 19; refine (r45Names_any l A c _ _ ((k : Int) + 1) (H.out.grw HG1.out) hn').mono ?_; rintro e V3 ⟨MA, mc, rfl, hq, hr⟩; have HQ := Lib.hid (HG1.out.trans hq); have HM := Lib.hid (own_slb hr); clear hr hq)
          have hml := HNL.out ((k : Int) + 1)
          go_loopw [7] (fun i wr => ∃ m : Nat, i = .int .i64 m ∧ m ≤ (namesL l ((k : Int) + 1)).length ∧ Grw V3 wr ∧ ∀ u ∈ (namesL l ((k : Int) + 1)).take m, Ins l ((k : Int) + 1) (upL l u)) (fun i _ => (namesL l ((k : Int) + 1)).length - (intOf i).toNat)
          case atStart => exact ⟨0, rfl, Nat.zero_le _, Grw.refl _, fun u hu => by simp at hu⟩
          case round =>
            obtain ⟨m, rfl, hm, hg, hin⟩ := hrel
            have HG2 := Lib.hid hg
            have HIN := Lib.hid hin
            by_cases hml2 : m < (namesL l ((k : Int) + 1)).length
            · have m3 : (m : Int) < ((namesL l ((k : Int) + 1)).length : Int) := by omega
              obtain ⟨u, hu⟩ : ∃ o, (namesL l ((k : Int) + 1))[m]? = some o := ⟨_, List.getElem?_eq_getElem hml2⟩
              obtain ⟨j, hj, rfl⟩ : ∃ j : Nat, j < l.length ∧ u = (j : Int) + 1 := by
                have := liveL_range (namesL_live (List.mem_of_getElem? hu)).1
                exact ⟨(u - 1).toNat, by omega, by omega⟩
              obtain ⟨rb, ro, rfl, _, hrb, dr⟩ := (HM.out.grw hg).at_ hu
              have dr := dr 0 _ rfl
              simp only [Nat.add_zero, Nat.mul_one] at dr
              have j3 : (j : Int) < (l.length : Int) := by omega
              obtain ⟨x, hx⟩ : ∃ o, l[j]? = some o := ⟨_, List.getElem?_eq_getElem hj⟩
              have HL := Lib.hid (show upL l ((j : Int) + 1) = x.o0 by unfold upL; rw [clAt_nat, hx])
              obtain ⟨b, o, rfl, _, hbl, hc⟩ := (H.out.grw (HQ.out.trans hg)).1.at_ hx
              have d1 := hc 1 _ rfl
              have HSN := Lib.hid (take_snocG hu)
              obtain ⟨len, hlen⟩ : ∃ n, (namesL l ((k : Int) + 1)).length = n := ⟨_, rfl⟩
              rw [hlen] at m3 hml hml2 hm ⊢
              clear hu hlen hc hx hg hin
              go_wp2_with (first
                | (go_at_call 30; refine (inside_any l _ c _ _ ((k : Int) + 1) x.o0 (H.out.grw (HQ.out.trans HG2.out)) hn').mono ?_; rintro e V6 ⟨r, rfl, hq, hi⟩; have HQ6 := Lib.hid hq; have HI6 := Lib.hid hi; clear hq hi; cases r)
                | (go_at_call 16; refine (awake45 _).mono ?_; rintro e w' ⟨rfl, hg⟩; have HQ7 := Lib.hid hg; clear hg))
              · go_ret
                exact ⟨rfl, HQ.out.trans (HG2.out.trans (HQ6.out.trans HQ7.out))⟩
              · have HINS := Lib.hid (show ∀ u ∈ (namesL l ((k : Int) + 1)).take (m + 1), Ins l ((k : Int) + 1) (upL l u) by
                  rw [HSN.out]
                  exact snoc_all HIN.out (by rw [HL.out]; first | exact HI6.out rfl | exact HI6.out trivial))
                go_roundw
                case rel => first | exact ⟨m + 1, by go_num, by omega, HG2.out.trans HQ6.out, HINS.out⟩ | ((repeat apply Exists.intro); exact ⟨⟨m + 1, by go_num, by omega, HG2.out.trans HQ6.out, HINS.out⟩, rfl⟩)
                case measure => simp [intOf]; omega
            · obtain rfl : m = (namesL l ((k : Int) + 1)).length := by omega
              rw [List.take_of_length_le (Nat.le_refl _)] at hin
              have HALS : Hid (∀ i : Nat, i < k + 1 → ∀ u ∈ namesL l ((i : Int) + 1), Ins l ((i : Int) + 1) (upL l u)) := Lib.hid (fun i hi => by
                by_cases e : i = k
                · subst e; exact hin
                · exact HALL.out i (by omega))
              clear hg hin
              go_wp2
              go_roundw
              case rel => first | exact ⟨k + 1, by go_num, by omega, HQ.out.trans HG2.out, HALS.out⟩ | ((repeat apply Exists.intro); exact ⟨⟨k + 1, by go_num, by omega, HQ.out.trans HG2.out, HALS.out⟩, rfl⟩)
              case measure => simp [intOf]; omega
        · obtain rfl : k = l.length := by omega
          have HWN := Lib.hid (calm_none (l := l) (fun a u hu => by
            have := liveL_range (namesL_live hu).2
            have h1 := HALL.out (a - 1).toNat (by omega) u (by rw [show (((a - 1).toNat : Nat) : Int) + 1 = a by omega]; exact hu)
            rw [show (((a - 1).toNat : Nat) : Int) + 1 = a by omega] at h1
            exact h1))
          go_wp2_with (first
            | (go_at_call 26; refine (pWild_any l A c _ _ (H.out.grw HG1.out) hn' HOW.out).mono ?_; rw [HWN.out]; rintro e V8 ⟨A4, s4, rfl, hq, _⟩; have HB4 := Lib.hid (HG1.out.trans hq); clear hq)
            | (go_at_call 16; refine (awake45 _).mono ?_; rintro e w' ⟨rfl, hg⟩; have HQ7 := Lib.hid hg; clear hg))
          go_ret
          exact ⟨rfl, HB4.out.trans HQ7.out⟩
    · go_wp2_with (go_at_call 16; refine (awake45 _).mono ?_; rintro e w' ⟨rfl, hg⟩; have HQ7 := Lib.hid hg; clear hg)
      go_ret
      exact ⟨rfl, HGC.out.trans HQ7.out⟩
end
end Go.Proofs.Ytgjpbhgobjlneaa
