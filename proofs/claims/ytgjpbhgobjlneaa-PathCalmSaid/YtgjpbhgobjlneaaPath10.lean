/- Contracts of chapter 45's law's helpers: same, great. Conditions: fewer than a million objects. -/
import Derived.Test.YtgjpbhgobjlneaaPath9
namespace Go.Proofs.Ytgjpbhgobjlneaa
open Go.RowKit Go.Sort
def greatL (l : List Cl) : Bool := l.any fun c => decide (25 < l.length) || decide (20 < c.fl.length)
theorem take_succ_eq {a b : List Int} {k : Nat} (h : a.take k = b.take k) {x y : Int} (hx : a[k]? = some x) (hy : b[k]? = some y) (e : x = y) : a.take (k + 1) = b.take (k + 1) := by
  rw [take_snocG hx, take_snocG hy, h, e]
section
variable (a b : List Int) (A1 A2 : Option Addr) (c1 c2 B1 B2 : Nat) (w : World)
set_option maxHeartbeats 1000000 in
theorem l45same_any (h1 : SlB intC 1 w B1 A1 a) (h2 : SlB intC 1 w B2 A2 b) (hn : a.length ≤ 1000000) :
    Calls Try.prog 17 #[.slice A1 a.length c1, .slice A2 b.length c2] w fun e w' => e = .returned (.bool (a == b)) ∧ Grw w w' := by
  by_cases hl : a.length = b.length
  · have e0 : ((a.length : Int) != (b.length : Int)) = false := by simp; omega
    have HL := Lib.hid hl
    have H1 := Lib.hid h1
    have H2 := Lib.hid h2
    clear hl h1 h2
    go_enter Try.func17, Try.ntmps17
    go_wp2
    go_loopw [5] (fun i wr => ∃ k q : Nat, k ≤ a.length ∧ i = .int .i64 k ∧ a.take k = b.take k ∧ wr = w.drewN q) (fun i _ => a.length - (intOf i).toNat)
    case atStart => exact ⟨0, 0, Nat.zero_le _, rfl, rfl, rfl⟩
    case round =>
      obtain ⟨k, q, hk, rfl, ht, rfl⟩ := hrel
      by_cases hlt : k < a.length
      · obtain ⟨x, hx⟩ : ∃ o, a[k]? = some o := ⟨_, List.getElem?_eq_getElem hlt⟩
        obtain ⟨y, hy⟩ : ∃ o, b[k]? = some o := ⟨_, List.getElem?_eq_getElem (HL.out ▸ hlt)⟩
        obtain ⟨b1, o1, rfl, _, hbl, hc⟩ := H1.out.at_ hx
        obtain ⟨b2, o2, rfl, _, hbl', hc'⟩ := H2.out.at_ hy
        have d0 := hc 0 _ rfl
        have d1 := hc' 0 _ rfl
        simp only [Nat.add_zero, Nat.mul_one] at d0 d1
        have f3 : (k : Int) < (a.length : Int) := by omega
        have f4 : (k : Int) < (b.length : Int) := by have := HL.out; omega
        have HX := Lib.hid hx
        have HY := Lib.hid hy
        have HT := Lib.hid ht
        clear hc hc' hx hy ht
        by_cases hxy : x = y
        · have e1 : ((x : Int) != y) = false := by simp [hxy]
          have HTT := Lib.hid (take_succ_eq HT.out HX.out HY.out hxy)
          clear hxy
          go_wp2
          go_quiet (fail)
          go_wp2
          go_roundw
          case rel => exact ⟨k + 1, _, by omega, by go_num, HTT.out, rfl⟩
          case measure => simp [intOf]; omega
        · have e1 : ((x : Int) != y) = true := by simp [hxy]
          have HTT : Hid ((a == b) = false) := Lib.hid (by
            rw [beq_eq_false_iff_ne]
            intro e
            subst e
            have := HX.out.symm.trans HY.out
            injection this with this
            exact hxy this)
          clear hxy
          go_wp2
          go_quiet (fail)
          go_wp2
          go_ret
          exact ⟨by rw [HTT.out]; rfl, by repeat (first | exact Grw.refl _ | apply Grw.ext | apply Grw.alloc | apply Grw.drewN | apply Grw.drew)⟩
      · obtain rfl : k = a.length := by omega
        have HTT : Hid ((a == b) = true) := Lib.hid (by
          rw [beq_iff_eq]
          have := ht
          rw [List.take_of_length_le (Nat.le_refl _), HL.out, List.take_of_length_le (Nat.le_refl _)] at this
          exact this)
        clear ht
        go_wp2
        go_ret
        exact ⟨by rw [HTT.out]; rfl, by repeat (first | exact Grw.refl _ | apply Grw.ext | apply Grw.alloc | apply Grw.drewN | apply Grw.drew)⟩
  · have e0 : ((a.length : Int) != (b.length : Int)) = true := by simp; omega
    have HTT : Hid ((a == b) = false) := Lib.hid (by rw [beq_eq_false_iff_ne]; intro e; exact hl (by rw [e]))
    clear hl h1 h2
    go_enter Try.func17, Try.ntmps17
    go_wp2
    go_ret
    exact ⟨by rw [HTT.out]; rfl, Grw.refl _⟩
end
section
variable (l : List Cl) (A : Option Addr) (c B : Nat) (w : World)
set_option maxHeartbeats 1000000 in
theorem l45great_any (h : SlB Cl.cells 7 w B A l) (hn : l.length ≤ 9223372036854775807) : Calls Try.prog 15 #[.slice A l.length c] w fun e w' => e = .returned (.bool (greatL l)) ∧ w = w' := by
  have H := Lib.hid h
  clear h
  by_cases h25 : 25 < l.length
  · have HG := Lib.hid (show greatL l = true by
      unfold greatL
      obtain ⟨x, r, rfl⟩ : ∃ x r, l = x :: r := by
        cases l with
        | nil => simp at h25
        | cons x r => exact ⟨x, r, rfl⟩
      rw [List.any_cons, decide_eq_true h25]; rfl)
    obtain ⟨x, hx⟩ : ∃ o, l[0]? = some o := ⟨_, List.getElem?_eq_getElem (by omega)⟩
    have f1 : (0 : Int) < (l.length : Int) := by omega
    have f2 : (25 : Int) < (l.length : Int) := by omega
    clear hx
    go_enter Try.func15, Try.ntmps15
    go_wp2
    go_loop [3] (fun i => i = .int .i64 0) (fun _ => 0)
    case atStart => rfl
    case round =>
      obtain rfl := hrel
      go_wp2
      go_ret
      exact ⟨by rw [HG.out]; rfl, rfl⟩
  · have f2 : ¬ (25 : Int) < (l.length : Int) := by omega
    have hn' : l.length ≤ 1000000 := by omega
    have HG : Hid (greatL l = l.any fun c => decide (20 < c.fl.length)) := Lib.hid (by unfold greatL; rw [decide_eq_false h25]; simp)
    clear h25
    go_enter Try.func15, Try.ntmps15
    go_wp2
    go_loop [3] (fun i => ∃ k : Nat, k ≤ l.length ∧ i = .int .i64 k ∧ ((l.take k).any fun c => decide (20 < c.fl.length)) = false) (fun i => l.length - (intOf i).toNat)
    case atStart => exact ⟨0, Nat.zero_le _, rfl, rfl⟩
    case round =>
      obtain ⟨k, hk, rfl, hno⟩ := hrel
      by_cases hlt : k < l.length
      · obtain ⟨x, hx⟩ : ∃ o, l[k]? = some o := ⟨_, List.getElem?_eq_getElem hlt⟩
        obtain ⟨b, o, rfl, _, hbl, hc⟩ := H.out.at_ hx
        have d5 := hc 5 _ rfl
        have g3 : (k : Int) < (l.length : Int) := by omega
        have HT := Lib.hid (take_snocG hx)
        have HX := Lib.hid hx
        have HNO := Lib.hid hno
        clear hc hx hno
        by_cases h20 : 20 < x.fl.length
        · have f5 : (20 : Int) < (x.fl.length : Int) := by omega
          have HA : Hid ((l.any fun c => decide (20 < c.fl.length)) = true) := Lib.hid ((List.any_eq_true (p := fun c : Cl => decide (20 < c.fl.length))).2 ⟨x, List.mem_of_getElem? HX.out, decide_eq_true h20⟩)
          clear h20
          go_wp2
          go_ret
          exact ⟨by rw [HG.out, HA.out]; rfl, rfl⟩
        · have f5 : ¬ (20 : Int) < (x.fl.length : Int) := by omega
          have HA := Lib.hid (decide_eq_false h20)
          clear h20
          go_wp2
          go_round
          case rel => exact ⟨k + 1, by omega, by go_num, by rw [HT.out, List.any_append, HNO.out]; simp only [List.any_cons, List.any_nil, HA.out]; rfl⟩
          case measure => simp [intOf]; omega
      · obtain rfl : k = l.length := by omega
        rw [List.take_of_length_le (Nat.le_refl _)] at hno
        have HNO := Lib.hid hno
        clear hno
        go_wp2
        go_ret
        exact ⟨by rw [HG.out, HNO.out]; rfl, rfl⟩
end
end Go.Proofs.Ytgjpbhgobjlneaa
