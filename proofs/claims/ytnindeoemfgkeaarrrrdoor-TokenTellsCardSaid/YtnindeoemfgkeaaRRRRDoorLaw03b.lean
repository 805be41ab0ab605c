/- The law TokenTells: Text, Same and Is answer as the document's answer does, at any tokens. -/
import Derived.Test.YtnindeoemfgkeaaRRRRDoorTell2
import Derived.Test.YtnindeoemfgkeaaRRRRDoorLaw03a
namespace Go.Proofs.YtnindeoemfgkeaaRRRRDoor
open Go.RowKit
section
variable (a b : List Tok) (A1 A2 : Option Addr) (c1 c2 B : Nat) (x : Tok) (s : ByteArray) (w : World)
set_option maxHeartbeats 2000000 in
set_option maxRecDepth 100000 in
theorem law03Tells_far (hw : Wd w) (hbig : 60 < a.length ∨ 60 < b.length) (hn : a.length ≤ 9223372036854775807) (hm : b.length ≤ 9223372036854775807) :
    Calls Tryd.prog 5 #[.agg #[.slice A1 a.length c1, .slice A2 b.length c2], .agg #[.int .i64 x.kind, .string (bs x.text), .int .i64 x.pos], .string s] w fun e w' => e = .returned (.bool true) ∧ Grw w w' := by
  have hcs : (60 : Int) < (a.length : Int) ∨ ((a.length : Int) ≤ 60 ∧ (60 : Int) < (b.length : Int)) := by omega
  clear hbig
  rcases hcs with h1 | ⟨h1, h2⟩
  all_goals
    go_enter Tryd.func5, Tryd.ntmps5
    go_wp2
    go_quiet (fail)
    go_wp2_with (go_at_call 6; refine (awake03 _ (by repeat (first | exact hw | apply Wd.ext | apply Wd.alloc | apply Wd.drewN | apply Wd.drew))).mono ?_; rintro e w1 ⟨rfl, hq⟩)
    go_ret
    exact ⟨rfl, Grw.trans (by repeat (first | exact Grw.refl _ | apply Grw.ext | apply Grw.alloc | apply Grw.drewN | apply Grw.drew)) hq⟩
theorem upto_max (l : List Tok) (k : Nat) (m : Int) (y : Tok) (hy : l[k]? = some y) (h : ∀ j z, j < k → l[j]? = some z → (z.text.length : Int) ≤ m) : ∀ j z, j < k + 1 → l[j]? = some z → (z.text.length : Int) ≤ max m (y.text.length : Int) := by
  intro j z hj hz
  rcases Nat.lt_or_ge j k with hlt | hge
  · have := h j z hlt hz; omega
  · obtain rfl : j = k := by omega
    rw [hy] at hz; injection hz with hz; subst hz; omega
set_option maxHeartbeats 4000000 in
set_option maxRecDepth 100000 in
theorem law03Tells_near (hw : Wd w) (hA : a.length ≤ 60) (hB : b.length ≤ 60) (h1 : SlB Tok.cells 3 w B A1 a) (h2 : SlB Tok.cells 3 w B A2 b) (hBw : B ≤ w.heap.size) :
    Calls Tryd.prog 5 #[.agg #[.slice A1 a.length c1, .slice A2 b.length c2], .agg #[.int .i64 x.kind, .string (bs x.text), .int .i64 x.pos], .string s] w fun e w' => e = .returned (.bool true) ∧ Grw w w' := by
  obtain ⟨r, hr⟩ : ∃ r, sameL a b = r := ⟨_, rfl⟩
  obtain ⟨q, hq⟩ : ∃ q, isW x s.data.toList = q := ⟨_, rfl⟩
  have HR := Lib.hid hr
  have HQ := Lib.hid hq
  have HH1 := Lib.hid h1
  have HH2 := Lib.hid h2
  clear hr hq h1 h2
  have f1 : (a.length : Int) ≤ 60 := by omega
  have f2 : (b.length : Int) ≤ 60 := by omega
  go_enter Tryd.func5, Tryd.ntmps5
  go_wp2
  go_quiet (fail)
  go_wp2
  go_loop [9, 10] (fun n i => ∃ (k : Nat) (m : Int), k ≤ a.length ∧ i = .int .i64 k ∧ n = .int .i64 m ∧ ∀ j z, j < k → a[j]? = some z → (z.text.length : Int) ≤ m) (fun _ i => a.length - (intOf i).toNat)
  case atStart => exact ⟨0, _, Nat.zero_le _, rfl, rfl, fun j z hj => by omega⟩
  case round =>
    obtain ⟨k, m, hk, rfl, rfl, hall⟩ := hrel
    by_cases hlt : k < a.length
    · obtain ⟨y, hy⟩ : ∃ o, a[k]? = some o := ⟨_, List.getElem?_eq_getElem hlt⟩
      obtain ⟨b1, ob, rfl, _, hbl, hc⟩ := HH1.out.at_ hy
      have e1 := hc 1 _ rfl
      have f4 : (k : Int) < (a.length : Int) := by omega
      have HU := Lib.hid (upto_max a k m y hy hall)
      clear hc hall hy
      go_wp2
      go_roundw
      case rel => first | exact ⟨k + 1, max m y.text.length, by omega, by go_num, rfl, HU.out⟩ | ((repeat apply Exists.intro); exact ⟨⟨k + 1, max m y.text.length, by omega, by go_num, rfl, HU.out⟩, rfl⟩)
      case measure => simp [intOf]; omega
    · obtain rfl : k = a.length := by omega
      by_cases h200 : m ≤ 200
      · have f5 : (m : Int) ≤ 200 := by omega
        have HM := Lib.hid (show ∀ y ∈ a, y.text.length ≤ 100000 from fun y hy => by
          obtain ⟨j, hj⟩ := List.getElem?_of_mem hy
          have := hall j y (List.getElem?_eq_some_iff.1 hj).1 hj
          omega)
        clear hall
        have HA := Lib.hid (show a.length ≤ 1000000 by omega)
        have HB := Lib.hid (show b.length ≤ 1000000 by omega)
        have HS := Lib.hid (sameL_self a)
        cases r
        all_goals cases q
        all_goals
          go_wp2
          refine wp_region_grw (by kernel_rfl) (by kernel_rfl) ?_
          repeat (go_big_quiet_step ((first
                      | (go_at_call 9; exact grw_quiet (tText_any a A1 c1 B _ (by repeat (first | exact HH1.out | apply SlB.alloc | apply SlB.ext | apply SlB.drewN)) (by simp only [wext_size, World.size_alloc]; omega) HA.out HM.out))
                      | (go_at_call 11; exact grw_quiet (r03Text_any a A1 c1 B _ (by repeat (first | exact HH1.out | apply SlB.alloc | apply SlB.ext | apply SlB.drewN)) HA.out HM.out))
                      | (go_at_call 10; exact grw_quiet (HR.out ▸ tSame_any a b A1 A2 c1 c2 B _ (by repeat (first | exact HH1.out | apply SlB.alloc | apply SlB.ext | apply SlB.drewN)) (by repeat (first | exact HH2.out | apply SlB.alloc | apply SlB.ext | apply SlB.drewN)) HA.out HB.out))
                      | (go_at_call 12; exact grw_quiet (HR.out ▸ r03Same_any a b A1 A2 c1 c2 B _ (by repeat (first | exact HH1.out | apply SlB.alloc | apply SlB.ext | apply SlB.drewN)) (by repeat (first | exact HH2.out | apply SlB.alloc | apply SlB.ext | apply SlB.drewN)) HA.out HB.out))
                      | (go_at_call 10; exact grw_quiet (HS.out ▸ tSame_any a a A1 A1 c1 c1 B _ (by repeat (first | exact HH1.out | apply SlB.alloc | apply SlB.ext | apply SlB.drewN)) (by repeat (first | exact HH1.out | apply SlB.alloc | apply SlB.ext | apply SlB.drewN)) HA.out HA.out))
                      | (go_at_call 13; exact grw_quiet (HQ.out ▸ tIs_any x.kind x.pos x.text s _))
                      | (go_at_call 14; exact grw_quiet (HQ.out ▸ r03Is_any x.kind x.pos x.text s _))
                      | (go_at_call 6; exact grw_quiet (awake03 _ (by repeat (first | exact hw | apply Wd.ext | apply Wd.alloc | apply Wd.drewN | apply Wd.drew)))))))
          refine wpQuiet_nil ?_
          rintro _ ⟨⟨gh, gd⟩, rfl⟩
          dsimp only
          go_wp2
          go_ret
          exact ⟨rfl, (by repeat (first | exact Grw.refl _ | apply Grw.ext | apply Grw.alloc | apply Grw.drewN | apply Grw.drew))⟩
      · have f5 : (200 : Int) < (m : Int) := by omega
        clear hall
        go_wp2_with (go_at_call 6; refine (awake03 _ (by repeat (first | exact hw | apply Wd.ext | apply Wd.alloc | apply Wd.drewN | apply Wd.drew))).mono ?_; rintro e w1 ⟨rfl, hq⟩)
        go_ret
        exact ⟨rfl, Grw.trans (by repeat (first | exact Grw.refl _ | apply Grw.ext | apply Grw.alloc | apply Grw.drewN | apply Grw.drew)) hq⟩
end
end Go.Proofs.YtnindeoemfgkeaaRRRRDoor
