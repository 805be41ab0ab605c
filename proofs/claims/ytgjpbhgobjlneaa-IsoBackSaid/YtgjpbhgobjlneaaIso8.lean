/- Contracts of law 44's same and awake, and the law IsoMatch. Conditions: none. -/
import Derived.Test.YtgjpbhgobjlneaaIso7
import Derived.Test.YtgjpbhgobjlneaaEqs
namespace Go.Proofs.Ytgjpbhgobjlneaa
open Go.RowKit
@[go_sem] theorem eq_pair (w : World) (a b a' b' : Int) : (Op.equalIn 10000 29 (.agg #[.int .i64 a, .int .i64 b]) (.agg #[.int .i64 a', .int .i64 b'])).run Try.prog w = .ok (a == a' && b == b') w := by
  obtain ⟨i0, hi, _, hz1, _⟩ := info_parts info_int
  exact run_eqArr2 w 9998 29 3 .i64 .i64 i0 a b a' b' Try.underlying29 Try.underlying3 hi hz1
@[go_sem] theorem guard_pair (w : World) (op : BinOp) (x y : Operand) (xs ys : Array Value) : (eqGuard op 29 x y (.agg xs) (.agg ys)).run Try.prog w = .ok () w := run_eqGuard_agg w op _ x y xs ys (by kernel_rfl)
section
variable (a b : List (Int × Int)) (A1 A2 : Option Addr) (c1 c2 B : Nat) (w : World)
def sameP : List (Int × Int) → List (Int × Int) → Bool
  | [], [] => true
  | x :: a, y :: b => (x.1 == y.1 && x.2 == y.2) && sameP a b
  | _, _ => false
theorem sameP_len : ∀ (a b : List (Int × Int)), a.length ≠ b.length → sameP a b = false
  | [], [], h => absurd rfl h
  | [], _ :: _, _ => rfl
  | _ :: _, [], _ => rfl
  | x :: a, y :: b, h => by rw [sameP, sameP_len a b (by simpa using h), Bool.and_false]
theorem sameP_self : ∀ (a : List (Int × Int)), sameP a a = true
  | [] => rfl
  | x :: a => by rw [sameP, sameP_self a]; simp
theorem sameP_at {a b : List (Int × Int)} {k : Nat} {x y : Int × Int} (hx : a[k]? = some x) (hy : b[k]? = some y) : sameP (a.drop k) (b.drop k) = ((x.1 == y.1 && x.2 == y.2) && sameP (a.drop (k + 1)) (b.drop (k + 1))) := by
  obtain ⟨h1, rfl⟩ := List.getElem?_eq_some_iff.1 hx
  obtain ⟨h2, rfl⟩ := List.getElem?_eq_some_iff.1 hy
  rw [List.drop_eq_getElem_cons h1, List.drop_eq_getElem_cons h2, sameP]
set_option maxRecDepth 100000 in
set_option maxHeartbeats 1000000 in
theorem l44same_any (h1 : SlB pairC 2 w B A1 a) (h2 : SlB pairC 2 w B A2 b) (hn : a.length ≤ 1000000) (_hm : b.length ≤ 1000000) :
    Calls Try.prog 12 #[.slice A1 a.length c1, .slice A2 b.length c2] w fun e w' => e = .returned (.bool (sameP a b)) ∧ Grw w w' := by
  by_cases hl : a.length = b.length
  · have hl' : ((a.length : Int) != (b.length : Int)) = false := by simp; omega
    have HL := Lib.hid hl
    clear hl
    go_enter Try.func12, Try.ntmps12
    go_wp2
    go_loopw [5] (fun i wr => ∃ k : Nat, k ≤ a.length ∧ i = .int .i64 k ∧ SlB pairC 2 wr B A1 a ∧ SlB pairC 2 wr B A2 b ∧ sameP a b = sameP (a.drop k) (b.drop k) ∧ Grw w wr) (fun i _ => a.length - (intOf i).toNat)
    case atStart => exact ⟨0, Nat.zero_le _, rfl, (by repeat (first | exact h1 | apply SlB.alloc | apply SlB.ext | apply SlB.drewN)), (by repeat (first | exact h2 | apply SlB.alloc | apply SlB.ext | apply SlB.drewN)), rfl, by first | exact Grw.refl _ | (repeat (first | exact Grw.refl _ | apply Grw.ext | apply Grw.alloc | apply Grw.drewN | apply Grw.drew)); done⟩
    case round =>
      obtain ⟨k, hk, rfl, hb1, hb2, hs, hg⟩ := hrel
      by_cases hlt : k < a.length
      · obtain ⟨x, hx⟩ : ∃ o, a[k]? = some o := ⟨_, List.getElem?_eq_getElem hlt⟩
        obtain ⟨y, hy⟩ : ∃ o, b[k]? = some o := ⟨_, List.getElem?_eq_getElem (HL.out ▸ hlt)⟩
        have HS := Lib.hid (hs.trans (sameP_at hx hy))
        obtain ⟨b1, ob, rfl, _, hbl, hc⟩ := hb1.at_ hx
        obtain ⟨b2, ob', rfl, _, hbl', hc'⟩ := hb2.at_ hy
        have e0 := hc 0 _ rfl
        have e1 := hc 1 _ rfl
        have d0 := hc' 0 _ rfl
        have d1 := hc' 1 _ rfl
        simp only [Nat.add_zero] at e0 d0
        have f3 : (k : Int) < (a.length : Int) := by omega
        have f4 : (k : Int) < (b.length : Int) := by have := HL.out; omega
        have HG := Lib.hid hg
        have HB1 := Lib.hid hb1
        have HB2 := Lib.hid hb2
        clear hc hc' hg hb1 hb2 hx hy hs h1 h2
        cases hx1 : ((x.1 : Int) == y.1) <;> cases hx2 : ((x.2 : Int) == y.2)
        · have HX1 := Lib.hid hx1
          have HX2 := Lib.hid hx2
          go_wp2
          go_quiet (fail)
          go_wp2
          go_ret
          exact ⟨by rw [HS.out, HX1.out, HX2.out]; rfl, (by repeat (first | exact HG.out | apply Grw.ext | apply Grw.alloc | apply Grw.drewN | apply Grw.drew))⟩
        · have HX1 := Lib.hid hx1
          have HX2 := Lib.hid hx2
          go_wp2
          go_quiet (fail)
          go_wp2
          go_ret
          exact ⟨by rw [HS.out, HX1.out, HX2.out]; rfl, (by repeat (first | exact HG.out | apply Grw.ext | apply Grw.alloc | apply Grw.drewN | apply Grw.drew))⟩
        · have HX1 := Lib.hid hx1
          have HX2 := Lib.hid hx2
          go_wp2
          go_quiet (fail)
          go_wp2
          go_ret
          exact ⟨by rw [HS.out, HX1.out, HX2.out]; rfl, (by repeat (first | exact HG.out | apply Grw.ext | apply Grw.alloc | apply Grw.drewN | apply Grw.drew))⟩
        · have HX1 := Lib.hid hx1
          have HX2 := Lib.hid hx2
          go_wp2
          go_quiet (fail)
          go_wp2
          go_roundw
          case rel => first | exact ⟨k + 1, by omega, by go_num, (by repeat (first | exact HB1.out | apply SlB.alloc | apply SlB.ext | apply SlB.drewN)), (by repeat (first | exact HB2.out | apply SlB.alloc | apply SlB.ext | apply SlB.drewN)), by rw [HS.out, HX1.out, HX2.out]; rfl, (by repeat (first | exact HG.out | apply Grw.ext | apply Grw.alloc | apply Grw.drewN | apply Grw.drew))⟩ | ((repeat apply Exists.intro); exact ⟨⟨k + 1, by omega, by go_num, (by repeat (first | exact HB1.out | apply SlB.alloc | apply SlB.ext | apply SlB.drewN)), (by repeat (first | exact HB2.out | apply SlB.alloc | apply SlB.ext | apply SlB.drewN)), by rw [HS.out, HX1.out, HX2.out]; rfl, (by repeat (first | exact HG.out | apply Grw.ext | apply Grw.alloc | apply Grw.drewN | apply Grw.drew))⟩, rfl⟩)
          case measure => simp [intOf]; omega
      · obtain rfl : k = a.length := by omega
        have HS := Lib.hid (show sameP a b = true by rw [hs, List.drop_eq_nil_of_le (Nat.le_refl _), List.drop_eq_nil_of_le (Nat.le_of_eq HL.out.symm)]; rfl)
        clear hb1 hb2 hs h1 h2
        go_wp2
        go_ret
        exact ⟨by rw [HS.out]; rfl, hg⟩
  · have hl' : ((a.length : Int) != (b.length : Int)) = true := by simp; omega
    have HS := Lib.hid (sameP_len a b hl)
    clear hl h1 h2
    go_enter Try.func12, Try.ntmps12
    go_wp2
    go_ret
    exact ⟨by rw [HS.out]; rfl, by first | exact Grw.refl _ | (repeat (first | exact Grw.refl _ | apply Grw.ext | apply Grw.alloc | apply Grw.drewN | apply Grw.drew)); done⟩
end
end Go.Proofs.Ytgjpbhgobjlneaa
