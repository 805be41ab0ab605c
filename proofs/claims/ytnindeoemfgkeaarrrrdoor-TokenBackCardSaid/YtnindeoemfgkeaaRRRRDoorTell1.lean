/- Contracts of layer 3 (token and the document's answer): Is, Same: they answer alike. -/
import Derived.Test.YtnindeoemfgkeaaRRRRDoorLib3
import Derived.Test.YtnindeoemfgkeaaRRRRDoorRef03Of
namespace Go.Proofs.YtnindeoemfgkeaaRRRRDoor
open Go.RowKit
/-- Is a token this word or sign? -/
def isW (t : Tok) (s : List UInt8) : Bool := (t.kind == 3 || t.kind == 4) && t.text == s
theorem bs_beq (a : List UInt8) (s : ByteArray) : (a == s.toList) = (a == s.data.toList) := by rw [toList_eq_data]
set_option maxHeartbeats 1000000 in
theorem tIs_any (k p : Int) (t : List UInt8) (s : ByteArray) (w : World) :
    Calls Tryd.prog 13 #[.agg #[.int .i64 k, .string (bs t), .int .i64 p], .string s] w fun e w' => e = .returned (.bool (isW ⟨k, t, p⟩ s.data.toList)) ∧ Grw w w' := by
  have hb := bs_beq t s
  by_cases h3 : k = 3
  · subst h3
    go_enter Tryd.func13, Tryd.ntmps13
    go_wp2
    go_ret
    exact ⟨ret_bool (by rw [isW]; simp), by first | exact Grw.refl _ | (repeat (first | exact Grw.refl _ | apply Grw.ext | apply Grw.alloc | apply Grw.drewN | apply Grw.drew)); done⟩
  · by_cases h4 : k = 4
    · subst h4
      go_enter Tryd.func13, Tryd.ntmps13
      go_wp2
      go_ret
      exact ⟨ret_bool (by rw [isW]; simp), by first | exact Grw.refl _ | (repeat (first | exact Grw.refl _ | apply Grw.ext | apply Grw.alloc | apply Grw.drewN | apply Grw.drew)); done⟩
    · have e3 : (k == 3) = false := by simpa using h3
      have e4 : (k == 4) = false := by simpa using h4
      clear hb
      go_enter Tryd.func13, Tryd.ntmps13
      go_wp2
      go_ret
      exact ⟨ret_bool (by rw [isW]; simp [e3, e4]), by first | exact Grw.refl _ | (repeat (first | exact Grw.refl _ | apply Grw.ext | apply Grw.alloc | apply Grw.drewN | apply Grw.drew)); done⟩

set_option maxHeartbeats 1000000 in
theorem r03Is_any (k p : Int) (t : List UInt8) (s : ByteArray) (w : World) :
    Calls Tryd.prog 14 #[.agg #[.int .i64 k, .string (bs t), .int .i64 p], .string s] w fun e w' => e = .returned (.bool (isW ⟨k, t, p⟩ s.data.toList)) ∧ Grw w w' := by
  have hb := bs_beq t s
  by_cases h3 : k = 3
  · subst h3
    go_enter Tryd.func14, Tryd.ntmps14
    go_wp2
    go_ret
    exact ⟨ret_bool (by rw [isW]; simp), by first | exact Grw.refl _ | (repeat (first | exact Grw.refl _ | apply Grw.ext | apply Grw.alloc | apply Grw.drewN | apply Grw.drew)); done⟩
  · by_cases h4 : k = 4
    · subst h4
      go_enter Tryd.func14, Tryd.ntmps14
      go_wp2
      go_ret
      exact ⟨ret_bool (by rw [isW]; simp), by first | exact Grw.refl _ | (repeat (first | exact Grw.refl _ | apply Grw.ext | apply Grw.alloc | apply Grw.drewN | apply Grw.drew)); done⟩
    · have e3 : (k == 3) = false := by simpa using h3
      have e4 : (k == 4) = false := by simpa using h4
      clear hb
      go_enter Tryd.func14, Tryd.ntmps14
      go_wp2
      go_ret
      exact ⟨ret_bool (by rw [isW]; simp [e3, e4]), by first | exact Grw.refl _ | (repeat (first | exact Grw.refl _ | apply Grw.ext | apply Grw.alloc | apply Grw.drewN | apply Grw.drew)); done⟩

def sameT (x y : Tok) : Bool := x.kind == y.kind && x.text == y.text
def sameL : List Tok → List Tok → Bool
  | [], [] => true
  | x :: a, y :: b => sameT x y && sameL a b
  | _, _ => false
theorem sameL_len : ∀ (a b : List Tok), a.length ≠ b.length → sameL a b = false
  | [], [], h => absurd rfl h
  | [], _ :: _, _ => rfl
  | _ :: _, [], _ => rfl
  | x :: a, y :: b, h => by rw [sameL, sameL_len a b (by simpa using h), Bool.and_false]
theorem sameL_self : ∀ (a : List Tok), sameL a a = true
  | [] => rfl
  | x :: a => by rw [sameL, sameL_self a]; simp [sameT]
theorem sameL_at {a b : List Tok} {k : Nat} {x y : Tok} (hx : a[k]? = some x) (hy : b[k]? = some y) : sameL (a.drop k) (b.drop k) = (sameT x y && sameL (a.drop (k + 1)) (b.drop (k + 1))) := by
  obtain ⟨h1, rfl⟩ := List.getElem?_eq_some_iff.1 hx
  obtain ⟨h2, rfl⟩ := List.getElem?_eq_some_iff.1 hy
  rw [List.drop_eq_getElem_cons h1, List.drop_eq_getElem_cons h2, sameL]
theorem bs_beq2 (a b : List UInt8) : (a == (bs b).toList) = (a == b) := by rw [toList_eq_data, bs_data]
set_option maxHeartbeats 1000000 in
theorem tSame1_any (k1 p1 k2 p2 : Int) (t1 t2 : List UInt8) (w : World) :
    Calls Tryd.prog 21 #[.agg #[.int .i64 k1, .string (bs t1), .int .i64 p1], .agg #[.int .i64 k2, .string (bs t2), .int .i64 p2]] w fun e w' => e = .returned (.bool (sameT ⟨k1, t1, p1⟩ ⟨k2, t2, p2⟩)) ∧ Grw w w' := by
  by_cases h : k1 = k2
  · subst h
    have hb := bs_beq2 t1 t2
    go_enter Tryd.func21, Tryd.ntmps21
    go_wp2
    go_ret
    exact ⟨ret_bool (by rw [sameT]; simp), by first | exact Grw.refl _ | (repeat (first | exact Grw.refl _ | apply Grw.ext | apply Grw.alloc | apply Grw.drewN | apply Grw.drew)); done⟩
  · have e3 : (k1 == k2) = false := by simpa using h
    go_enter Tryd.func21, Tryd.ntmps21
    go_wp2
    go_ret
    exact ⟨ret_bool (by rw [sameT]; simp [e3]), by first | exact Grw.refl _ | (repeat (first | exact Grw.refl _ | apply Grw.ext | apply Grw.alloc | apply Grw.drewN | apply Grw.drew)); done⟩
section
variable (a b : List Tok) (A1 A2 : Option Addr) (c1 c2 B : Nat) (w : World)
set_option maxRecDepth 100000 in
set_option maxHeartbeats 2000000 in
theorem slEqT_any (h1 : SlB Tok.cells 3 w B A1 a) (h2 : SlB Tok.cells 3 w B A2 b) (hn : a.length ≤ 1000000) (hm : b.length ≤ 1000000) :
    Calls Tryd.prog 20 #[.slice A1 a.length c1, .slice A2 b.length c2, .func (.func 21) #[] #[]] w fun e w' => e = .returned (.bool (sameL a b)) ∧ Grw w w' := by
  by_cases hl : a.length = b.length
  · have hl' : ((a.length : Int) != (b.length : Int)) = false := by simp; omega
    have HL := Lib.hid hl
    clear hl
    go_enter Tryd.func20, Tryd.ntmps20
    go_wp2
    go_loopw [17] (fun i wr => ∃ k : Nat, k ≤ a.length ∧ i = .int .i64 k ∧ SlB Tok.cells 3 wr B A1 a ∧ SlB Tok.cells 3 wr B A2 b ∧ sameL a b = sameL (a.drop k) (b.drop k) ∧ Grw w wr) (fun i _ => a.length - (intOf i).toNat)
    case atStart => exact ⟨0, Nat.zero_le _, rfl, (by repeat (first | exact h1 | apply SlB.alloc | apply SlB.ext | apply SlB.drewN)), (by repeat (first | exact h2 | apply SlB.alloc | apply SlB.ext | apply SlB.drewN)), rfl, by first | exact Grw.refl _ | (repeat (first | exact Grw.refl _ | apply Grw.ext | apply Grw.alloc | apply Grw.drewN | apply Grw.drew)); done⟩
    case round =>
      obtain ⟨k, hk, rfl, hb1, hb2, hs, hg⟩ := hrel
      by_cases hlt : k < a.length
      · obtain ⟨x, hx⟩ : ∃ o, a[k]? = some o := ⟨_, List.getElem?_eq_getElem hlt⟩
        obtain ⟨y, hy⟩ : ∃ o, b[k]? = some o := ⟨_, List.getElem?_eq_getElem (HL.out ▸ hlt)⟩
        have HS := Lib.hid (hs.trans (sameL_at hx hy))
        obtain ⟨b1, ob, rfl, _, hbl, hc⟩ := hb1.at_ hx
        obtain ⟨b2, ob', rfl, _, hbl', hc'⟩ := hb2.at_ hy
        have e0 := hc 0 _ rfl
        have e1 := hc 1 _ rfl
        have e2 := hc 2 _ rfl
        have d0 := hc' 0 _ rfl
        have d1 := hc' 1 _ rfl
        have d2 := hc' 2 _ rfl
        simp only [Nat.add_zero] at e0 d0
        have f3 : (k : Int) < (a.length : Int) := by omega
        have f4 : (k : Int) < (b.length : Int) := by have := HL.out; omega
        have HG := Lib.hid hg
        have HB1 := Lib.hid hb1
        have HB2 := Lib.hid hb2
        clear hc hc' hg hb1 hb2 hx hy hs h1 h2
        cases hxy : sameT x y
        · have HX := Lib.hid hxy
          clear hxy
          go_wp2_with (go_at_call 21; refine (tSame1_any _ _ _ _ _ _ _).mono ?_; rintro e w1 ⟨rfl, xh, xd, rfl⟩; rw [show (⟨x.kind, x.text, x.pos⟩ : Tok) = x from rfl, show (⟨y.kind, y.text, y.pos⟩ : Tok) = y from rfl, HX.out])
          go_ret
          exact ⟨by rw [HS.out, HX.out]; rfl, (by repeat (first | exact HG.out | apply Grw.ext | apply Grw.alloc | apply Grw.drewN | apply Grw.drew))⟩
        · have HX := Lib.hid hxy
          clear hxy
          go_wp2_with (go_at_call 21; refine (tSame1_any _ _ _ _ _ _ _).mono ?_; rintro e w1 ⟨rfl, xh, xd, rfl⟩; rw [show (⟨x.kind, x.text, x.pos⟩ : Tok) = x from rfl, show (⟨y.kind, y.text, y.pos⟩ : Tok) = y from rfl, HX.out])
          go_roundw
          case rel => first | exact ⟨k + 1, by omega, by go_num, (by repeat (first | exact HB1.out | apply SlB.alloc | apply SlB.ext | apply SlB.drewN)), (by repeat (first | exact HB2.out | apply SlB.alloc | apply SlB.ext | apply SlB.drewN)), by rw [HS.out, HX.out, Bool.true_and], (by repeat (first | exact HG.out | apply Grw.ext | apply Grw.alloc | apply Grw.drewN | apply Grw.drew))⟩ | ((repeat apply Exists.intro); exact ⟨⟨k + 1, by omega, by go_num, (by repeat (first | exact HB1.out | apply SlB.alloc | apply SlB.ext | apply SlB.drewN)), (by repeat (first | exact HB2.out | apply SlB.alloc | apply SlB.ext | apply SlB.drewN)), by rw [HS.out, HX.out, Bool.true_and], (by repeat (first | exact HG.out | apply Grw.ext | apply Grw.alloc | apply Grw.drewN | apply Grw.drew))⟩, rfl⟩)
          case measure => simp [intOf]; omega
      · obtain rfl : k = a.length := by omega
        have HS := Lib.hid (show sameL a b = true by rw [hs, List.drop_eq_nil_of_le (Nat.le_refl _), List.drop_eq_nil_of_le (Nat.le_of_eq HL.out.symm)]; rfl)
        clear hb1 hb2 hs h1 h2
        go_wp2
        go_ret
        exact ⟨by rw [HS.out]; rfl, hg⟩
  · have hl' : ((a.length : Int) != (b.length : Int)) = true := by simp; omega
    have HS := Lib.hid (sameL_len a b hl)
    clear hl h1 h2
    go_enter Tryd.func20, Tryd.ntmps20
    go_wp2
    go_ret
    exact ⟨by rw [HS.out]; rfl, by first | exact Grw.refl _ | (repeat (first | exact Grw.refl _ | apply Grw.ext | apply Grw.alloc | apply Grw.drewN | apply Grw.drew)); done⟩
set_option maxHeartbeats 1000000 in
theorem tSame_any (h1 : SlB Tok.cells 3 w B A1 a) (h2 : SlB Tok.cells 3 w B A2 b) (hn : a.length ≤ 1000000) (hm : b.length ≤ 1000000) :
    Calls Tryd.prog 10 #[.slice A1 a.length c1, .slice A2 b.length c2] w fun e w' => e = .returned (.bool (sameL a b)) ∧ Grw w w' := by
  have hc := fun w : World => slEqT_any a b A1 A2 c1 c2 B w
  go_enter Tryd.func10, Tryd.ntmps10
  go_wp2_with (go_at_call 20; refine (slEqT_any a b A1 A2 c1 c2 B _ h1 h2 hn hm).mono ?_; rintro e w1 ⟨rfl, hq⟩)
  go_ret
  exact ⟨rfl, hq⟩
set_option maxRecDepth 100000 in
set_option maxHeartbeats 2000000 in
theorem r03Same_any (h1 : SlB Tok.cells 3 w B A1 a) (h2 : SlB Tok.cells 3 w B A2 b) (hn : a.length ≤ 1000000) (hm : b.length ≤ 1000000) :
    Calls Tryd.prog 12 #[.slice A1 a.length c1, .slice A2 b.length c2] w fun e w' => e = .returned (.bool (sameL a b)) ∧ Grw w w' := by
  by_cases hl : a.length = b.length
  · have hl' : ((a.length : Int) != (b.length : Int)) = false := by simp; omega
    have HL := Lib.hid hl
    clear hl
    go_enter Tryd.func12, Tryd.ntmps12
    go_wp2
    go_loopw [5] (fun i wr => ∃ k : Nat, k ≤ a.length ∧ i = .int .i64 k ∧ SlB Tok.cells 3 wr B A1 a ∧ SlB Tok.cells 3 wr B A2 b ∧ sameL a b = sameL (a.drop k) (b.drop k) ∧ Grw w wr) (fun i _ => a.length - (intOf i).toNat)
    case atStart => exact ⟨0, Nat.zero_le _, rfl, (by repeat (first | exact h1 | apply SlB.alloc | apply SlB.ext | apply SlB.drewN)), (by repeat (first | exact h2 | apply SlB.alloc | apply SlB.ext | apply SlB.drewN)), rfl, by first | exact Grw.refl _ | (repeat (first | exact Grw.refl _ | apply Grw.ext | apply Grw.alloc | apply Grw.drewN | apply Grw.drew)); done⟩
    case round =>
      obtain ⟨k, hk, rfl, hb1, hb2, hs, hg⟩ := hrel
      by_cases hlt : k < a.length
      · obtain ⟨x, hx⟩ : ∃ o, a[k]? = some o := ⟨_, List.getElem?_eq_getElem hlt⟩
        obtain ⟨y, hy⟩ : ∃ o, b[k]? = some o := ⟨_, List.getElem?_eq_getElem (HL.out ▸ hlt)⟩
        have HS := Lib.hid (hs.trans (sameL_at hx hy))
        obtain ⟨b1, ob, rfl, _, hbl, hc⟩ := hb1.at_ hx
        obtain ⟨b2, ob', rfl, _, hbl', hc'⟩ := hb2.at_ hy
        have e0 := hc 0 _ rfl
        have e1 := hc 1 _ rfl
        have d0 := hc' 0 _ rfl
        have d1 := hc' 1 _ rfl
        simp only [Nat.add_zero] at e0 d0
        have f3 : (k : Int) < (a.length : Int) := by omega
        have f4 : (k : Int) < (b.length : Int) := by have := HL.out; omega
        have HG := Lib.hid hg
        have HB1 := Lib.hid hb1
        have HB2 := Lib.hid hb2
        have hb := bs_beq2 x.text y.text
        clear hc hc' hg hb1 hb2 hx hy hs h1 h2
        by_cases hkk : x.kind = y.kind
        · have hq : ((x.kind : Int) != (y.kind : Int)) = false := by simp; omega
          by_cases htt : x.text = y.text
          · have hq2 : (x.text == y.text) = true := by simp [htt]
            have HX := Lib.hid (show sameT x y = true by simp [sameT, hkk, htt])
            clear hkk htt
            go_wp2
            go_quiet (fail)
            go_wp2
            go_roundw
            case rel => first | exact ⟨k + 1, by omega, by go_num, (by repeat (first | exact HB1.out | apply SlB.alloc | apply SlB.ext | apply SlB.drewN)), (by repeat (first | exact HB2.out | apply SlB.alloc | apply SlB.ext | apply SlB.drewN)), by rw [HS.out, HX.out, Bool.true_and], (by repeat (first | exact HG.out | apply Grw.ext | apply Grw.alloc | apply Grw.drewN | apply Grw.drew))⟩ | ((repeat apply Exists.intro); exact ⟨⟨k + 1, by omega, by go_num, (by repeat (first | exact HB1.out | apply SlB.alloc | apply SlB.ext | apply SlB.drewN)), (by repeat (first | exact HB2.out | apply SlB.alloc | apply SlB.ext | apply SlB.drewN)), by rw [HS.out, HX.out, Bool.true_and], (by repeat (first | exact HG.out | apply Grw.ext | apply Grw.alloc | apply Grw.drewN | apply Grw.drew))⟩, rfl⟩)
            case measure => simp [intOf]; omega
          · have hq2 : (x.text == y.text) = false := by simp [htt]
            have HX := Lib.hid (show sameT x y = false by simp [sameT, htt])
            clear hkk htt
            go_wp2
            go_quiet (fail)
            go_wp2
            go_ret
            exact ⟨by rw [HS.out, HX.out]; rfl, (by repeat (first | exact HG.out | apply Grw.ext | apply Grw.alloc | apply Grw.drewN | apply Grw.drew))⟩
        · have hq : ((x.kind : Int) != (y.kind : Int)) = true := by simp; omega
          have HX := Lib.hid (show sameT x y = false by simp [sameT, hkk])
          clear hkk hb
          go_wp2
          go_quiet (fail)
          go_wp2
          go_ret
          exact ⟨by rw [HS.out, HX.out]; rfl, (by repeat (first | exact HG.out | apply Grw.ext | apply Grw.alloc | apply Grw.drewN | apply Grw.drew))⟩
      · obtain rfl : k = a.length := by omega
        have HS := Lib.hid (show sameL a b = true by rw [hs, List.drop_eq_nil_of_le (Nat.le_refl _), List.drop_eq_nil_of_le (Nat.le_of_eq HL.out.symm)]; rfl)
        clear hb1 hb2 hs h1 h2
        go_wp2
        go_ret
        exact ⟨by rw [HS.out]; rfl, hg⟩
  · have hl' : ((a.length : Int) != (b.length : Int)) = true := by simp; omega
    have HS := Lib.hid (sameL_len a b hl)
    clear hl h1 h2
    go_enter Tryd.func12, Tryd.ntmps12
    go_wp2
    go_ret
    exact ⟨by rw [HS.out]; rfl, by first | exact Grw.refl _ | (repeat (first | exact Grw.refl _ | apply Grw.ext | apply Grw.alloc | apply Grw.drewN | apply Grw.drew)); done⟩
end
end Go.Proofs.YtnindeoemfgkeaaRRRRDoor
