/- Contracts of the document's answer for layer 3 (demesneref03): sign, skip, one, Of, Is: what each returns, at any string shorter than 10^9 bytes; nothing that was there is written. -/
import Derived.Test.YtnindeoemfgkeaaRRRRDoorRef02
namespace Go.Proofs.YtnindeoemfgkeaaRRRRDoor
open Go.RowKit

/-- How many bytes are left out ahead; true: within a remark. -/
def sk : Bool → List UInt8 → Nat
  | _, [] => 0
  | true, c :: r => if c.toNat = 10 then 1 + sk false r else 1 + sk true r
  | false, c :: r => if blankI c.toNat then 1 + sk false r else if c.toNat = 47 ∧ (r.head?.map UInt8.toNat) = some 47 then 1 + sk true r else 0
theorem sk_le : ∀ (l : List UInt8) (b : Bool), sk b l ≤ l.length
  | [], b => by cases b <;> simp [sk]
  | c :: r, b => by
    have h1 := sk_le r true
    have h2 := sk_le r false
    cases b <;> simp only [sk, List.length_cons] <;> (repeat' split) <;> omega
theorem sk_blank (c : UInt8) (r : List UInt8) (h : blankI c.toNat = true) : sk false (c :: r) = 1 + sk false r := by simp only [sk, h, if_true]
theorem sk_none (c : UInt8) (r : List UInt8) (h : blankI c.toNat = false) (h2 : ¬ (c.toNat = 47 ∧ (r.head?.map UInt8.toNat) = some 47)) : sk false (c :: r) = 0 := by simp only [sk, h, Bool.false_eq_true, if_false, if_neg h2]
theorem sk_remark (c : UInt8) (r : List UInt8) (h : blankI c.toNat = false) (h2 : c.toNat = 47 ∧ (r.head?.map UInt8.toNat) = some 47) : sk false (c :: r) = sk true (c :: r) := by
  have h3 : ¬ c.toNat = 10 := by omega
  simp only [sk, h, Bool.false_eq_true, if_false, if_pos h2, if_neg h3]
theorem sk_on (c : UInt8) (r : List UInt8) (h : ¬ c.toNat = 10) : sk true (c :: r) = 1 + sk true r := by simp only [sk, if_neg h]
theorem sk_line (c : UInt8) (r : List UInt8) (h : c.toNat = 10) : sk true (c :: r) = sk false (c :: r) := by
  have hb : blankI c.toNat = true := by rw [h]; rfl
  simp only [sk, if_pos h, hb, if_true]
theorem head_drop (s : ByteArray) (k : Nat) : (s.data.toList.drop k).head?.map UInt8.toNat = if h : k < s.size then some (s[k]).toNat else none := by
  split
  · rename_i h; rw [drop_get s k h]; rfl
  · rename_i h; rw [drop_end s k (by omega)]; rfl

set_option maxHeartbeats 2000000 in
theorem r03skip_any (s : ByteArray) (w : World) (hs : s.size ≤ 1000000000) :
    Calls Tryd.prog 16 #[.string s] w fun e w' => e = .returned (.int .i64 (sk false s.data.toList)) ∧ w = w' := by
  go_enter Tryd.func16, Tryd.ntmps16
  go_wp2
  go_loop [3] (fun i => ∃ k : Nat, k ≤ s.size ∧ i = .int .i64 k ∧ sk false s.data.toList = k + sk false (s.data.toList.drop k)) (fun i => s.size - (intOf i).toNat)
  case atStart => exact ⟨0, by omega, rfl, by simp⟩
  case round =>
    obtain ⟨k, hk, rfl, hf⟩ := hrel
    by_cases hlt : k < s.size
    · have hd := drop_get s k hlt
      have hh := head_drop s (k + 1)
      rw [hd] at hf
      have HF := Lib.hid hf
      have HH := Lib.hid hh
      have HD := Lib.hid hd
      clear hf hd hh
      cases hbl : blankI (s[k]).toNat
      · have HB := Lib.hid hbl
        clear hbl
        by_cases h47 : ((s[k]).toNat : Int) = 47
        · have b1 : (((s[k]).toNat : Int) != 47) = false := by simp [h47]
          have H47 := Lib.hid h47
          clear h47
          by_cases hlt1 : k + 1 < s.size
          · have f1 : (k : Int) + 1 < (s.size : Int) := by omega
            by_cases h48 : ((s[k+1]).toNat : Int) = 47
            · have b2 : (((s[k+1]).toNat : Int) != 47) = false := by simp [h48]
              have H48 := Lib.hid h48
              clear h48
              have hc : (s[k]).toNat = 47 ∧ ((s.data.toList.drop (k + 1)).head?.map UInt8.toNat) = some 47 := ⟨by have := H47.out; omega, by rw [HH.out, dif_pos hlt1]; have := H48.out; congr 1; omega⟩
              have HS2 := Lib.hid (sk_remark _ _ HB.out hc)
              clear hc
              go_wp2_with (go_at_call 29; refine (r02Blank_any _ _).mono ?_; rintro e w' ⟨rfl, rfl⟩; rw [HB.out])
              go_loop [3] (fun i => ∃ j : Nat, k ≤ j ∧ j ≤ s.size ∧ i = .int .i64 j ∧ (j = k ∨ True) ∧ sk false s.data.toList = j + sk true (s.data.toList.drop j)) (fun i => s.size - (intOf i).toNat)
              case atStart => exact ⟨k, Nat.le_refl _, hk, rfl, .inr trivial, by rw [HF.out, HS2.out, HD.out]⟩
              case round =>
                obtain ⟨j, hj1, hj2, rfl, _, hf⟩ := hrel
                by_cases hltj : j < s.size
                · have hd := drop_get s j hltj
                  rw [hd] at hf
                  have HF := Lib.hid hf
                  have HD := Lib.hid hd
                  clear hf hd
                  by_cases h10 : ((s[j]).toNat : Int) = 10
                  · have b3 : (((s[j]).toNat : Int) != 10) = false := by simp [h10]
                    have HS3 := Lib.hid (sk_line s[j] (s.data.toList.drop (j + 1)) (by omega))
                    have H10 := Lib.hid h10
                    clear h10
                    go_wp2
                    go_round
                    case rel => exact ⟨j, hj2, rfl, by rw [HF.out, HS3.out, HD.out]⟩
                    case measure =>
                      simp [intOf]
                      have : j ≠ k := by rintro rfl; have := H47.out; have := H10.out; omega
                      omega
                  · have b3 : (((s[j]).toNat : Int) != 10) = true := by simp [h10]
                    have HS3 := Lib.hid (sk_on s[j] (s.data.toList.drop (j + 1)) (by omega))
                    have H10 := Lib.hid h10
                    clear h10
                    go_wp2
                    go_round
                    case rel => exact ⟨j + 1, by omega, by omega, by go_num, .inr trivial, by rw [HF.out, HS3.out]; omega⟩
                    case measure => simp [intOf]; omega
                · obtain rfl : j = s.size := by omega
                  have HF := Lib.hid hf
                  clear hf
                  go_wp2
                  go_round
                  case rel => exact ⟨s.size, Nat.le_refl _, rfl, by rw [HF.out, drop_end _ _ (Nat.le_refl _)]; rfl⟩
                  case measure => simp [intOf]; omega
            · have b2 : (((s[k+1]).toNat : Int) != 47) = true := by simp [h48]
              have HS2 := Lib.hid (sk_none s[k] (s.data.toList.drop (k + 1)) HB.out (by rintro ⟨_, h⟩; rw [HH.out, dif_pos hlt1] at h; injection h with h; omega))
              have H48 := Lib.hid h48
              clear h48
              go_wp2_with (go_at_call 29; refine (r02Blank_any _ _).mono ?_; rintro e w' ⟨rfl, rfl⟩; rw [HB.out])
              go_ret
              exact ⟨ret_int (by rw [HF.out, HS2.out]; simp), rfl⟩
          · have HS2 := Lib.hid (sk_none s[k] (s.data.toList.drop (k + 1)) HB.out (by rintro ⟨_, h⟩; rw [HH.out, dif_neg hlt1] at h; cases h))
            have f1 : (s.size : Int) ≤ (k : Int) + 1 := by omega
            go_wp2_with (go_at_call 29; refine (r02Blank_any _ _).mono ?_; rintro e w' ⟨rfl, rfl⟩; rw [HB.out])
            go_ret
            exact ⟨ret_int (by rw [HF.out, HS2.out]; simp), rfl⟩
        · have b1 : (((s[k]).toNat : Int) != 47) = true := by simp [h47]
          have HS2 := Lib.hid (sk_none s[k] (s.data.toList.drop (k + 1)) HB.out (by rintro ⟨h, _⟩; omega))
          have H47 := Lib.hid h47
          clear h47
          go_wp2_with (go_at_call 29; refine (r02Blank_any _ _).mono ?_; rintro e w' ⟨rfl, rfl⟩; rw [HB.out])
          all_goals
            go_ret
            exact ⟨ret_int (by rw [HF.out, HS2.out]; simp), rfl⟩
      · have HS2 := Lib.hid (sk_blank s[k] (s.data.toList.drop (k + 1)) hbl)
        have HB := Lib.hid hbl
        clear hbl
        go_wp2_with (go_at_call 29; refine (r02Blank_any _ _).mono ?_; rintro e w' ⟨rfl, rfl⟩; rw [HB.out])
        go_round
        case rel => exact ⟨k + 1, by omega, by go_num, by rw [HF.out, HS2.out]; omega⟩
        case measure => simp [intOf]; omega
    · obtain rfl : k = s.size := by omega
      have HF := Lib.hid hf
      clear hf
      go_wp2
      go_ret
      exact ⟨ret_int (by rw [HF.out, drop_end _ _ (Nat.le_refl _)]; simp [sk]), rfl⟩

def sgs : List UInt8 := [123, 125, 40, 41, 60, 62, 44, 59, 46, 61, 43, 45, 42, 33]
/-- The longest sign that a text begins with. -/
def signL (l : List UInt8) : List UInt8 :=
  if l.take 2 = [61, 61] ∨ l.take 2 = [38, 38] then l.take 2
  else match l with
    | [] => []
    | c :: _ => if c ∈ sgs then [c] else []
theorem signL_two {l : List UInt8} (h : l.take 2 = [61, 61] ∨ l.take 2 = [38, 38]) : signL l = l.take 2 := by unfold signL; rw [if_pos h]
theorem signL_one {c : UInt8} {r : List UInt8} (h : ¬ ((c :: r).take 2 = [61, 61] ∨ (c :: r).take 2 = [38, 38])) : signL (c :: r) = if c ∈ sgs then [c] else [] := by unfold signL; rw [if_neg h]
theorem sgs_at (sg : ByteArray) (h : sg = ⟨#[123, 125, 40, 41, 60, 62, 44, 59, 46, 61, 43, 45, 42, 33]⟩) (k : Nat) (hk : k < sg.size) : sgs.take (k + 1) = sgs.take k ++ [sg[k]] := by
  have : sgs = sg.data.toList := by rw [h]; rfl
  rw [this, take_snoc sg k hk]
set_option maxHeartbeats 2000000 in
theorem r03sign_any (s : ByteArray) (w : World) (hs : s.size ≤ 1000000000) :
    Calls Tryd.prog 33 #[.string s] w fun e w' => e = .returned (.string (bs (signL s.data.toList))) ∧ Qt w w' := by
  by_cases h0 : s.size = 0
  · have hl : s.data.toList = [] := List.eq_nil_of_length_eq_zero (by rw [← size_eq]; exact h0)
    obtain rfl : s = ⟨#[]⟩ := eq_bs hl
    clear hl h0
    go_enter Tryd.func33, Tryd.ntmps33
    go_wp2
    go_loop [4] (fun i => i = .int .i64 0) (fun i => 0)
    case atStart => rfl
    case round =>
      subst hrel
      go_wp2
      go_ret
      exact ⟨rfl, Qt.refl _⟩
  have f0 : 0 < s.size := by omega
  have he := isEmpty_of_pos s f0
  have hcons := drop_get s 0 f0
  rw [List.drop_zero] at hcons
  have HC := Lib.hid hcons
  have ht2 := extract_beg s 2
  have HT := Lib.hid ht2
  have e1 : ((s.extract 0 2).toList == [61, 61]) = decide (s.data.toList.take 2 = [61, 61]) := by rw [toList_eq_data, ht2, Bool.eq_iff_iff]; simp
  have e2 : ((s.extract 0 2).toList == [38, 38]) = decide (s.data.toList.take 2 = [38, 38]) := by rw [toList_eq_data, ht2, Bool.eq_iff_iff]; simp
  have hlen : s.data.toList.take 2 = [61, 61] ∨ s.data.toList.take 2 = [38, 38] → 1 < s.size := by
    intro h
    have : 2 ≤ (s.data.toList.take 2).length := by rcases h with h | h <;> rw [h] <;> simp
    rw [List.length_take] at this
    have := size_eq s
    omega
  clear hcons ht2
  by_cases h2 : s.data.toList.take 2 = [61, 61]
  · have h1 := hlen (.inl h2)
    have f2 : (2 : Int) ≤ (s.size : Int) := by omega
    have f1 : (1 : Int) < (s.size : Int) := by omega
    have HS := Lib.hid (signL_two (.inl h2))
    have b2 : ((s.extract 0 2).toList == [61, 61]) = true := by rw [e1]; simpa using h2
    clear e1 e2 hlen h2
    go_enter Tryd.func33, Tryd.ntmps33
    go_wp2
    go_ret
    exact ⟨ret_string (by rw [HS.out]; exact eq_bs HT.out), Qt.refl _⟩
  by_cases h3 : s.data.toList.take 2 = [38, 38]
  · have h1 := hlen (.inr h3)
    have f2 : (2 : Int) ≤ (s.size : Int) := by omega
    have f1 : (1 : Int) < (s.size : Int) := by omega
    have HS := Lib.hid (signL_two (.inr h3))
    have b2 : ((s.extract 0 2).toList == [61, 61]) = false := by rw [e1]; simpa using h2
    have b3 : ((s.extract 0 2).toList == [38, 38]) = true := by rw [e2]; simpa using h3
    clear e1 e2 hlen h2 h3
    go_enter Tryd.func33, Tryd.ntmps33
    go_wp2
    go_ret
    exact ⟨ret_string (by rw [HS.out]; exact eq_bs HT.out), Qt.refl _⟩
  have hso : signL s.data.toList = if s[0] ∈ sgs then [s[0]] else [] := by
    rw [HC.out] at h2 h3 ⊢
    exact signL_one (fun h => h.elim h2 h3)
  have HS := Lib.hid hso
  have ht1 := extract_beg s 1
  rw [HC.out] at ht1
  have HT1 := Lib.hid ht1
  have h2' : decide (1 < (s.size : Int)) = true ∧ ((s.extract 0 2).toList == [61, 61]) = false ∧ ((s.extract 0 2).toList == [38, 38]) = false ∧ (2 : Int) ≤ (s.size : Int) ∨ decide (1 < (s.size : Int)) = false := by
    by_cases h1 : 1 < s.size
    · exact .inl ⟨by simp; omega, by rw [e1]; simpa using h2, by rw [e2]; simpa using h3, by omega⟩
    · exact .inr (by simp; omega)
  obtain ⟨sg, hsg⟩ : ∃ x : ByteArray, x = ⟨#[123, 125, 40, 41, 60, 62, 44, 59, 46, 61, 43, 45, 42, 33]⟩ := ⟨_, rfl⟩
  have z1 : sg.size ≤ 14 := by rw [hsg]; exact Nat.le_refl _
  have z2 : 14 ≤ sg.size := by rw [hsg]; exact Nat.le_refl _
  have HSG := Lib.hid hsg
  clear h2 h3 e1 e2 hlen hso ht1
  rcases h2' with ⟨b1, b2, b3, f2⟩ | b1
  all_goals
    go_enter Tryd.func33, Tryd.ntmps33
    go_wp2
    rw [← hsg]
    clear hsg
    go_loopw [4] (fun i wr => ∃ k n : Nat, k ≤ 14 ∧ i = .int .i64 k ∧ s[0] ∉ sgs.take k ∧ wr = w.drewN n) (fun i _ => 14 - (intOf i).toNat)
    case atStart => exact ⟨0, 0, by omega, rfl, by simp, rfl⟩
    case round =>
      obtain ⟨k, n, hk, rfl, hn, rfl⟩ := hrel
      have HN := Lib.hid hn
      clear hn
      by_cases hlt : k < 14
      · have f3 : (k : Int) < (sg.size : Int) := by omega
        have HA := Lib.hid (sgs_at sg HSG.out k (by omega))
        have hu := u8_eq_iff sg[k] s[0]
        cases hq : (sg[k] == s[0])
        · rw [hq] at hu
          have HQ := Lib.hid hq
          clear hq
          go_wp2
          go_quiet (fail)
          go_wp2
          go_roundw
          case rel => exact ⟨k + 1, n + nq, by omega, by go_num, by
            rw [HA.out, List.mem_append]
            rintro (h | h)
            · exact HN.out h
            · have := HQ.out
              simp only [List.mem_singleton] at h
              rw [h] at this
              simp at this, rfl⟩
          case measure => simp [intOf]; omega
        · rw [hq] at hu
          have HQ := Lib.hid hq
          clear hq
          go_wp2
          go_quiet (fail)
          go_wp2
          go_ret
          refine ⟨ret_string ?_, Qt.mk' _ _⟩
          rw [HS.out, if_pos]
          · exact eq_bs HT1.out
          · have h := HA.out
            have h2 : s[0] ∈ sgs.take (k + 1) := by rw [h, ← beq_iff_eq.1 HQ.out]; simp
            exact List.mem_of_mem_take h2
      · have f3 : (sg.size : Int) ≤ (k : Int) := by omega
        go_wp2
        go_ret
        refine ⟨ret_string ?_, Qt.mk' _ _⟩
        rw [HS.out, if_neg]
        · rfl
        · have := HN.out
          rwa [List.take_of_length_le (by simp [sgs]; omega)] at this

/-- How many bytes, from the beginning on, are such. -/
def twl (p : UInt8 → Bool) : List UInt8 → Nat
  | [] => 0
  | c :: r => if p c then 1 + twl p r else 0
theorem twl_le (p : UInt8 → Bool) : ∀ l, twl p l ≤ l.length
  | [] => Nat.le_refl _
  | c :: r => by have := twl_le p r; simp only [twl, List.length_cons]; split <;> omega
theorem twl_yes {p : UInt8 → Bool} {c : UInt8} {r : List UInt8} (h : p c = true) : twl p (c :: r) = 1 + twl p r := by simp only [twl, h, if_true]
theorem twl_no {p : UInt8 → Bool} {c : UInt8} {r : List UInt8} (h : p c = false) : twl p (c :: r) = 0 := by simp only [twl, h, Bool.false_eq_true, if_false]
def innerB (c : UInt8) : Bool := letterI c.toNat || digitI c.toNat
def digB (c : UInt8) : Bool := digitI c.toNat
/-- The token that a text begins with: its kind (0: none), its text. -/
def oneL (l : List UInt8) : Nat × List UInt8 :=
  match l with
  | [] => (0, [])
  | c :: _ =>
    if letterI c.toNat then (if 0 < findW (l.take (twl innerB l)) then 3 else 1, l.take (twl innerB l))
    else if digitI c.toNat then (2, l.take (twl digB l))
    else if signL l = [] then (0, []) else (4, signL l)
theorem oneL_letter {c : UInt8} {r : List UInt8} (h : letterI c.toNat = true) : oneL (c :: r) = (if 0 < findW ((c :: r).take (twl innerB (c :: r))) then 3 else 1, (c :: r).take (twl innerB (c :: r))) := by
  simp only [oneL, h, if_true]
theorem oneL_digit {c : UInt8} {r : List UInt8} (h : letterI c.toNat = false) (h2 : digitI c.toNat = true) : oneL (c :: r) = (2, (c :: r).take (twl digB (c :: r))) := by
  simp only [oneL, h, h2, if_true, Bool.false_eq_true, if_false]
theorem oneL_sign {c : UInt8} {r : List UInt8} (h : letterI c.toNat = false) (h2 : digitI c.toNat = false) (h3 : signL (c :: r) ≠ []) : oneL (c :: r) = (4, signL (c :: r)) := by
  simp only [oneL, h, h2, Bool.false_eq_true, if_false, if_neg h3]
theorem oneL_none {c : UInt8} {r : List UInt8} (h : letterI c.toNat = false) (h2 : digitI c.toNat = false) (h3 : signL (c :: r) = []) : oneL (c :: r) = (0, []) := by
  simp only [oneL, h, h2, Bool.false_eq_true, if_false, if_pos h3]
def tokV (k : Nat) (l : List UInt8) (at_ : Nat) : Value := .agg #[.int .i64 k, .string (bs l), .int .i64 at_]
set_option maxHeartbeats 4000000 in
theorem r03one_any (s : ByteArray) (w : World) (hs : s.size ≤ 1000000000) (h0 : 0 < s.size) :
    Calls Tryd.prog 17 #[.string s] w fun e w' => e = .returned (tokV (oneL s.data.toList).1 (oneL s.data.toList).2 0) ∧ Grw w w' := by
  have hcons := drop_get s 0 h0
  rw [List.drop_zero] at hcons
  cases hl : letterI (s[0]).toNat
  · cases hd : digitI (s[0]).toNat
    · by_cases hsg : signL s.data.toList = []
      · have HO := Lib.hid (show oneL s.data.toList = (0, []) by rw [hcons] at hsg ⊢; exact oneL_none hl hd hsg)
        have b1 : (signL s.data.toList).isEmpty = true := by rw [hsg]; rfl
        have HL := Lib.hid hl
        have HD := Lib.hid hd
        clear hl hd hsg hcons
        go_enter Tryd.func17, Tryd.ntmps17
        go_wp2_with (first
          | (go_at_call 30; refine (r02Letter_any _ _).mono ?_; rintro e w' ⟨rfl, rfl⟩; rw [HL.out])
          | (go_at_call 31; refine (r02Digit_any _ _).mono ?_; rintro e w' ⟨rfl, rfl⟩; rw [HD.out])
          | (go_at_call 33; refine (r03sign_any _ _ hs).mono ?_; rintro e w' ⟨rfl, hq⟩; obtain ⟨nq, rfl⟩ := hq))
        exact bodyPost_ret (v := .agg #[.int .i64 0, .string ⟨#[]⟩, .int .i64 0]) (by simp [results, Tryd.results17, go_sem]) rfl ⟨by rw [HO.out]; rfl, ((Grw.refl _).alloc _).drewN _⟩
      · have HO := Lib.hid (show oneL s.data.toList = (4, signL s.data.toList) by rw [hcons] at hsg ⊢; exact oneL_sign hl hd hsg)
        have b1 : (signL s.data.toList).isEmpty = false := by simpa using hsg
        have HL := Lib.hid hl
        have HD := Lib.hid hd
        clear hl hd hsg hcons
        go_enter Tryd.func17, Tryd.ntmps17
        go_wp2_with (first
          | (go_at_call 30; refine (r02Letter_any _ _).mono ?_; rintro e w' ⟨rfl, rfl⟩; rw [HL.out])
          | (go_at_call 31; refine (r02Digit_any _ _).mono ?_; rintro e w' ⟨rfl, rfl⟩; rw [HD.out])
          | (go_at_call 33; refine (r03sign_any _ _ hs).mono ?_; rintro e w' ⟨rfl, hq⟩; obtain ⟨nq, rfl⟩ := hq))
        exact bodyPost_ret (v := .agg #[.int .i64 4, .string (bs (signL s.data.toList)), .int .i64 0]) (by simp [results, Tryd.results17, go_sem]) rfl ⟨by rw [HO.out]; rfl, ((Grw.refl _).alloc _).drewN _⟩
    · have HO := Lib.hid (show oneL s.data.toList = (2, s.data.toList.take (twl digB s.data.toList)) by rw [hcons]; exact oneL_digit hl hd)
      have HL := Lib.hid hl
      have HD := Lib.hid hd
      clear hl hd hcons
      go_enter Tryd.func17, Tryd.ntmps17
      go_wp2_with (first
        | (go_at_call 30; refine (r02Letter_any _ _).mono ?_; rintro e w' ⟨rfl, rfl⟩; rw [HL.out])
        | (go_at_call 31; refine (r02Digit_any _ _).mono ?_; rintro e w' ⟨rfl, rfl⟩; rw [HD.out]))
      go_loop [3] (fun i => ∃ k : Nat, k ≤ s.size ∧ i = .int .i64 k ∧ twl digB s.data.toList = k + twl digB (s.data.toList.drop k)) (fun i => s.size - (intOf i).toNat)
      case atStart => exact ⟨0, by omega, rfl, by simp⟩
      case round =>
        obtain ⟨k, hk, rfl, hf⟩ := hrel
        by_cases hlt : k < s.size
        · rw [drop_get s k hlt] at hf
          cases hdk : digitI (s[k]).toNat
          · rw [twl_no hdk] at hf
            have HF := Lib.hid hf
            have HDK := Lib.hid hdk
            clear hf hdk
            have f1 : (k : Int) ≤ (s.size : Int) := by omega
            have HX := Lib.hid (extract_beg s k)
            go_wp2_with (go_at_call 31; refine (r02Digit_any _ _).mono ?_; rintro e w' ⟨rfl, rfl⟩; rw [HDK.out])
            exact bodyPost_ret (v := .agg #[.int .i64 2, .string (s.extract 0 k), .int .i64 0]) (by simp [results, Tryd.results17, go_sem]) rfl ⟨by rw [HO.out, HF.out, tokV, eq_bs HX.out]; rfl, (Grw.refl _).alloc _⟩
          · rw [twl_yes hdk] at hf
            have HF := Lib.hid hf
            have HDK := Lib.hid hdk
            clear hf hdk
            go_wp2_with (go_at_call 31; refine (r02Digit_any _ _).mono ?_; rintro e w' ⟨rfl, rfl⟩; rw [HDK.out])
            go_round
            case rel => exact ⟨k + 1, by omega, by go_num, by rw [HF.out]; omega⟩
            case measure => simp [intOf]; omega
        · obtain rfl : k = s.size := by omega
          rw [drop_end s _ (Nat.le_refl _)] at hf
          have HF := Lib.hid hf
          clear hf
          have HX := Lib.hid (extract_beg s s.size)
          go_wp2_with fail
          exact bodyPost_ret (v := .agg #[.int .i64 2, .string (s.extract 0 s.size), .int .i64 0]) (by simp [results, Tryd.results17, go_sem]) rfl ⟨by rw [HO.out, HF.out, tokV, eq_bs HX.out]; rfl, (Grw.refl _).alloc _⟩
  · have HO := Lib.hid (show oneL s.data.toList = (if 0 < findW (s.data.toList.take (twl innerB s.data.toList)) then 3 else 1, s.data.toList.take (twl innerB s.data.toList)) by rw [hcons]; exact oneL_letter hl)
    have HL := Lib.hid hl
    clear hl hcons
    go_enter Tryd.func17, Tryd.ntmps17
    go_wp2_with (go_at_call 30; refine (r02Letter_any _ _).mono ?_; rintro e w' ⟨rfl, rfl⟩; rw [HL.out])
    go_loop [3] (fun i => ∃ k : Nat, k ≤ s.size ∧ i = .int .i64 k ∧ twl innerB s.data.toList = k + twl innerB (s.data.toList.drop k)) (fun i => s.size - (intOf i).toNat)
    case atStart => exact ⟨0, by omega, rfl, by simp⟩
    case round =>
      obtain ⟨k, hk, rfl, hf⟩ := hrel
      by_cases hlt : k < s.size
      · rw [drop_get s k hlt] at hf
        cases hlk : letterI (s[k]).toNat
        · cases hdk : digitI (s[k]).toNat
          · rw [twl_no (show innerB s[k] = false by simp [innerB, hlk, hdk])] at hf
            have HF := Lib.hid hf
            have HLK := Lib.hid hlk
            have HDK := Lib.hid hdk
            clear hf hlk hdk
            have f1 : (k : Int) ≤ (s.size : Int) := by omega
            have HX := Lib.hid (extract_beg s k)
            have hfw : 0 < findW (s.data.toList.take k) ∨ findW (s.data.toList.take k) = 0 := by omega
            rcases hfw with hfw | hfw
            · obtain ⟨m, hm⟩ : ∃ m, findW (s.extract 0 k).data.toList = m + 1 := ⟨findW (s.extract 0 k).data.toList - 1, by rw [HX.out]; omega⟩
              have HM := Lib.hid hm
              clear hm
              have HW := Lib.hid hfw
              clear hfw
              go_wp2_with (first
                | (go_at_call 32; refine (r02Find_any _ _).mono ?_; rintro e w1 ⟨rfl, hb⟩; obtain ⟨xh, xd, rfl⟩ := hb; rw [HM.out])
                | (go_at_call 30; refine (r02Letter_any _ _).mono ?_; rintro e w' ⟨rfl, rfl⟩; rw [HLK.out])
                | (go_at_call 31; refine (r02Digit_any _ _).mono ?_; rintro e w' ⟨rfl, rfl⟩; rw [HDK.out]))
              exact bodyPost_ret (v := .agg #[.int .i64 3, .string (s.extract 0 k), .int .i64 0]) (by simp [results, Tryd.results17, go_sem]) rfl ⟨by rw [HO.out, HF.out, if_pos (by simpa using HW.out), tokV, eq_bs HX.out]; rfl, ((Grw.refl _).alloc _).ext _ _⟩
            · have HM := Lib.hid (show findW (s.extract 0 k).data.toList = 0 by rw [HX.out]; omega)
              have HW := Lib.hid hfw
              clear hfw
              go_wp2_with (first
                | (go_at_call 32; refine (r02Find_any _ _).mono ?_; rintro e w1 ⟨rfl, hb⟩; obtain ⟨xh, xd, rfl⟩ := hb; rw [HM.out])
                | (go_at_call 30; refine (r02Letter_any _ _).mono ?_; rintro e w' ⟨rfl, rfl⟩; rw [HLK.out])
                | (go_at_call 31; refine (r02Digit_any _ _).mono ?_; rintro e w' ⟨rfl, rfl⟩; rw [HDK.out]))
              exact bodyPost_ret (v := .agg #[.int .i64 1, .string (s.extract 0 k), .int .i64 0]) (by simp [results, Tryd.results17, go_sem]) rfl ⟨by rw [HO.out, HF.out, if_neg (by have := HW.out; simp; omega), tokV, eq_bs HX.out]; rfl, ((Grw.refl _).alloc _).ext _ _⟩
          · rw [twl_yes (show innerB s[k] = true by simp [innerB, hdk])] at hf
            have HF := Lib.hid hf
            have HLK := Lib.hid hlk
            have HDK := Lib.hid hdk
            clear hf hlk hdk
            go_wp2_with (first
              | (go_at_call 30; refine (r02Letter_any _ _).mono ?_; rintro e w' ⟨rfl, rfl⟩; rw [HLK.out])
              | (go_at_call 31; refine (r02Digit_any _ _).mono ?_; rintro e w' ⟨rfl, rfl⟩; rw [HDK.out]))
            go_round
            case rel => exact ⟨k + 1, by omega, by go_num, by rw [HF.out]; omega⟩
            case measure => simp [intOf]; omega
        · rw [twl_yes (show innerB s[k] = true by simp [innerB, hlk])] at hf
          have HF := Lib.hid hf
          have HLK := Lib.hid hlk
          clear hf hlk
          go_wp2_with (go_at_call 30; refine (r02Letter_any _ _).mono ?_; rintro e w' ⟨rfl, rfl⟩; rw [HLK.out])
          go_round
          case rel => exact ⟨k + 1, by omega, by go_num, by rw [HF.out]; omega⟩
          case measure => simp [intOf]; omega
      · obtain rfl : k = s.size := by omega
        rw [drop_end s _ (Nat.le_refl _), show twl innerB [] = 0 from rfl] at hf
        have HF := Lib.hid hf
        clear hf
        have HX := Lib.hid (show s.data.toList.take (s.size + 0) = s.data.toList from List.take_of_length_le (by rw [size_eq]; exact Nat.le_refl _))
        have hfw : 0 < findW s.data.toList ∨ findW s.data.toList = 0 := by omega
        rcases hfw with hfw | hfw
        · obtain ⟨m, hm⟩ : ∃ m, findW s.data.toList = m + 1 := ⟨findW s.data.toList - 1, by omega⟩
          have HM := Lib.hid hm
          clear hm
          have HW := Lib.hid hfw
          clear hfw
          go_wp2_with (first
            | (go_at_call 32; refine (r02Find_any _ _).mono ?_; rintro e w1 ⟨rfl, hb⟩; obtain ⟨xh, xd, rfl⟩ := hb; rw [HM.out]))
          exact bodyPost_ret (v := .agg #[.int .i64 3, .string s, .int .i64 0]) (by simp [results, Tryd.results17, go_sem]) rfl ⟨by rw [HO.out, HF.out, HX.out, if_pos HW.out]; rfl, ((Grw.refl _).alloc _).ext _ _⟩
        · have HM := Lib.hid hfw
          clear hfw
          go_wp2_with (first
            | (go_at_call 32; refine (r02Find_any _ _).mono ?_; rintro e w1 ⟨rfl, hb⟩; obtain ⟨xh, xd, rfl⟩ := hb; rw [HM.out]))
          exact bodyPost_ret (v := .agg #[.int .i64 1, .string s, .int .i64 0]) (by simp [results, Tryd.results17, go_sem]) rfl ⟨by rw [HO.out, HF.out, HX.out, if_neg (by have := HM.out; omega)]; rfl, ((Grw.refl _).alloc _).ext _ _⟩
end Go.Proofs.YtnindeoemfgkeaaRRRRDoor
