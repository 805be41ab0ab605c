/- Contracts of the program's layer 3 (token): inner, run, signs, kinds. -/
import Derived.Test.YtnindeoemfgkeaaRRRRDoorWord3
import Derived.Test.YtnindeoemfgkeaaRRRRDoorRef03
import Derived.Test.YtnindeoemfgkeaaRRRRDoorShelfA
namespace Go.Proofs.YtnindeoemfgkeaaRRRRDoor
open Go.RowKit
set_option maxHeartbeats 400000 in
theorem tInner_any (c : UInt8) (w : World) :
    Calls Tryd.prog 40 #[.int .u8 c.toNat] w fun e w' => e = .returned (.bool (innerB c)) ∧ w = w' := by
  cases h : letterI c.toNat
  all_goals
    have H := Lib.hid h
    have HI := Lib.hid (show innerB c = (letterI c.toNat || digitI c.toNat) from rfl)
    rw [h] at HI
    clear h
    go_enter Tryd.func40, Tryd.ntmps40
    go_wp2_with (first
      | (go_at_call 39; refine (wLetter_any _ _).mono ?_; rintro e w' ⟨rfl, rfl⟩; rw [H.out])
      | (go_at_call 42; refine (wDigit_any _ _).mono ?_; rintro e w' ⟨rfl, rfl⟩))
    go_ret
    exact ⟨ret_bool (by rw [HI.out]; rfl), rfl⟩
def blankB (c : UInt8) : Bool := blankI c.toNat
theorem wBlank_b (c : UInt8) (w : World) : Calls Tryd.prog 24 #[.int .u8 c.toNat] w fun e w' => e = .returned (.bool (blankB c)) ∧ w = w' := wBlank_any _ w
theorem wDigit_b (c : UInt8) (w : World) : Calls Tryd.prog 42 #[.int .u8 c.toNat] w fun e w' => e = .returned (.bool (digB c)) ∧ w = w' := wDigit_any c w
set_option maxHeartbeats 1000000 in
theorem runBlank (s : ByteArray) (w : World) (hs : s.size ≤ 1000000000) :
    Calls Tryd.prog 23 #[.string s, .func (.func 24) #[] #[]] w fun e w' => e = .returned (.int .i64 (twl blankB s.data.toList)) ∧ w = w' := by
  go_enter Tryd.func23, Tryd.ntmps23
  go_wp2
  go_loop [5] (fun i => ∃ k : Nat, k ≤ s.size ∧ i = .int .i64 k ∧ twl blankB s.data.toList = k + twl blankB (s.data.toList.drop k)) (fun i => s.size - (intOf i).toNat)
  case atStart => exact ⟨0, Nat.zero_le _, rfl, by simp⟩
  case round =>
    obtain ⟨k, hk, rfl, hf⟩ := hrel
    by_cases hlt : k < s.size
    · have hd := drop_get s k hlt
      rw [hd] at hf
      have f1 : (k : Int) < (s.size : Int) := by omega
      cases hp : blankB s[k]
      · have HP := Lib.hid hp
        have HF := Lib.hid (hf.trans (by rw [twl_no hp]))
        clear hp hf hd
        go_wp2_with (go_at_call 24; refine (wBlank_b _ _).mono ?_; rintro e w' ⟨rfl, rfl⟩; rw [HP.out])
        go_ret
        exact ⟨ret_int (by rw [HF.out]; simp), rfl⟩
      · have HP := Lib.hid hp
        have HF := Lib.hid (hf.trans (by rw [twl_yes hp]))
        clear hp hf hd
        go_wp2_with (go_at_call 24; refine (wBlank_b _ _).mono ?_; rintro e w' ⟨rfl, rfl⟩; rw [HP.out])
        go_round
        case rel => exact ⟨k + 1, by omega, by go_num, by rw [HF.out]; omega⟩
        case measure => simp [intOf]; omega
    · obtain rfl : k = s.size := by omega
      have HF := Lib.hid hf
      clear hf
      go_wp2
      go_ret
      exact ⟨ret_int (by rw [HF.out, drop_end _ _ (Nat.le_refl _)]; simp [twl]), rfl⟩
set_option maxHeartbeats 1000000 in
theorem runDigit (s : ByteArray) (w : World) (hs : s.size ≤ 1000000000) :
    Calls Tryd.prog 23 #[.string s, .func (.func 42) #[] #[]] w fun e w' => e = .returned (.int .i64 (twl digB s.data.toList)) ∧ w = w' := by
  go_enter Tryd.func23, Tryd.ntmps23
  go_wp2
  go_loop [5] (fun i => ∃ k : Nat, k ≤ s.size ∧ i = .int .i64 k ∧ twl digB s.data.toList = k + twl digB (s.data.toList.drop k)) (fun i => s.size - (intOf i).toNat)
  case atStart => exact ⟨0, Nat.zero_le _, rfl, by simp⟩
  case round =>
    obtain ⟨k, hk, rfl, hf⟩ := hrel
    by_cases hlt : k < s.size
    · have hd := drop_get s k hlt
      rw [hd] at hf
      have f1 : (k : Int) < (s.size : Int) := by omega
      cases hp : digB s[k]
      · have HP := Lib.hid hp
        have HF := Lib.hid (hf.trans (by rw [twl_no hp]))
        clear hp hf hd
        go_wp2_with (go_at_call 42; refine (wDigit_b _ _).mono ?_; rintro e w' ⟨rfl, rfl⟩; rw [HP.out])
        go_ret
        exact ⟨ret_int (by rw [HF.out]; simp), rfl⟩
      · have HP := Lib.hid hp
        have HF := Lib.hid (hf.trans (by rw [twl_yes hp]))
        clear hp hf hd
        go_wp2_with (go_at_call 42; refine (wDigit_b _ _).mono ?_; rintro e w' ⟨rfl, rfl⟩; rw [HP.out])
        go_round
        case rel => exact ⟨k + 1, by omega, by go_num, by rw [HF.out]; omega⟩
        case measure => simp [intOf]; omega
    · obtain rfl : k = s.size := by omega
      have HF := Lib.hid hf
      clear hf
      go_wp2
      go_ret
      exact ⟨ret_int (by rw [HF.out, drop_end _ _ (Nat.le_refl _)]; simp [twl]), rfl⟩
set_option maxHeartbeats 1000000 in
theorem runInner (s : ByteArray) (w : World) (hs : s.size ≤ 1000000000) :
    Calls Tryd.prog 23 #[.string s, .func (.func 40) #[] #[]] w fun e w' => e = .returned (.int .i64 (twl innerB s.data.toList)) ∧ w = w' := by
  go_enter Tryd.func23, Tryd.ntmps23
  go_wp2
  go_loop [5] (fun i => ∃ k : Nat, k ≤ s.size ∧ i = .int .i64 k ∧ twl innerB s.data.toList = k + twl innerB (s.data.toList.drop k)) (fun i => s.size - (intOf i).toNat)
  case atStart => exact ⟨0, Nat.zero_le _, rfl, by simp⟩
  case round =>
    obtain ⟨k, hk, rfl, hf⟩ := hrel
    by_cases hlt : k < s.size
    · have hd := drop_get s k hlt
      rw [hd] at hf
      have f1 : (k : Int) < (s.size : Int) := by omega
      cases hp : innerB s[k]
      · have HP := Lib.hid hp
        have HF := Lib.hid (hf.trans (by rw [twl_no hp]))
        clear hp hf hd
        go_wp2_with (go_at_call 40; refine (tInner_any _ _).mono ?_; rintro e w' ⟨rfl, rfl⟩; rw [HP.out])
        go_ret
        exact ⟨ret_int (by rw [HF.out]; simp), rfl⟩
      · have HP := Lib.hid hp
        have HF := Lib.hid (hf.trans (by rw [twl_yes hp]))
        clear hp hf hd
        go_wp2_with (go_at_call 40; refine (tInner_any _ _).mono ?_; rintro e w' ⟨rfl, rfl⟩; rw [HP.out])
        go_round
        case rel => exact ⟨k + 1, by omega, by go_num, by rw [HF.out]; omega⟩
        case measure => simp [intOf]; omega
    · obtain rfl : k = s.size := by omega
      have HF := Lib.hid hf
      clear hf
      go_wp2
      go_ret
      exact ⟨ret_int (by rw [HF.out, drop_end _ _ (Nat.le_refl _)]; simp [twl]), rfl⟩
/-- Is a byte found among some? -/
theorem indexByte_mem : ∀ (l : List UInt8) (c : UInt8), (0 ≤ Lib.indexByte l c ∧ c ∈ l) ∨ (Lib.indexByte l c = -1 ∧ c ∉ l)
  | [], c => .inr ⟨rfl, by simp⟩
  | b :: l, c => by
    unfold Lib.indexByte
    by_cases h : b = c
    · exact .inl ⟨by simp [h], by simp [h]⟩
    · have hb : (b == c) = false := by simpa using h
      rw [hb]
      rcases indexByte_mem l c with ⟨h1, h2⟩ | ⟨h1, h2⟩
      · have h3 : (Lib.indexByte l c == -1) = false := by simp; omega
        rw [h3]
        exact .inl ⟨by simp; omega, by simp [h2]⟩
      · rw [h1]
        exact .inr ⟨rfl, by simp [h2]; exact fun e => h e.symm⟩
theorem hasPrefix_two (l : List UInt8) (a b : UInt8) : Lib.hasPrefix l [a, b] = decide (l.take 2 = [a, b]) := by
  rw [Bool.eq_iff_iff]
  unfold Lib.hasPrefix
  rw [List.isPrefixOf_iff_prefix, decide_eq_true_eq, List.prefix_iff_eq_take]
  exact ⟨fun h => h.symm, fun h => h.symm⟩
theorem u8_back (c : UInt8) : ((c.toNat : Int).toNat.toUInt8) = c := by
  rw [Int.toNat_natCast]
  exact UInt8.ofNat_toNat
set_option maxHeartbeats 1000000 in
theorem tSigns_any (s : ByteArray) (w : World) (h0 : 0 < s.size) :
    Calls Tryd.prog 43 #[.string s] w fun e w' => e = .returned (.int .i64 (signL s.data.toList).length) ∧ w = w' := by
  have f0 : (0 : Int) < (s.size : Int) := by omega
  have hcons := drop_get s 0 h0
  rw [List.drop_zero] at hcons
  have h1 := hasPrefix_two s.data.toList 61 61
  have h2 := hasPrefix_two s.data.toList 38 38
  have H1 := Lib.hid h1
  have H2 := Lib.hid h2
  have hl2 : s.data.toList.take 2 = [61, 61] ∨ s.data.toList.take 2 = [38, 38] → (signL s.data.toList).length = 2 := by
    intro h
    rw [signL_two h]
    rcases h with h | h <;> rw [h] <;> rfl
  clear h1 h2
  by_cases e1 : s.data.toList.take 2 = [61, 61]
  · have HL := Lib.hid (hl2 (.inl e1))
    have E1 := Lib.hid (H1.out.trans (decide_eq_true e1))
    clear hl2 e1 hcons
    go_enter Tryd.func43, Tryd.ntmps43
    go_wp2_with (go_at_call 25; refine (Tryd.strings_HasPrefix _ _ _).mono ?_; rintro e w' ⟨rfl, rfl⟩; rw [show Lib.hasPrefix s.data.toList (⟨#[61, 61]⟩ : ByteArray).data.toList = _ from E1.out])
    go_ret
    exact ⟨ret_int (by rw [HL.out]; rfl), rfl⟩
  by_cases e2 : s.data.toList.take 2 = [38, 38]
  · have HL := Lib.hid (hl2 (.inr e2))
    have E1 := Lib.hid (H1.out.trans (decide_eq_false e1))
    have E2 := Lib.hid (H2.out.trans (decide_eq_true e2))
    clear hl2 e1 e2 hcons
    go_enter Tryd.func43, Tryd.ntmps43
    go_wp2_with (go_at_call 25; refine (Tryd.strings_HasPrefix _ _ _).mono ?_; rintro e w' ⟨rfl, rfl⟩; first | rw [show Lib.hasPrefix s.data.toList (⟨#[61, 61]⟩ : ByteArray).data.toList = _ from E1.out] | rw [show Lib.hasPrefix s.data.toList (⟨#[38, 38]⟩ : ByteArray).data.toList = _ from E2.out])
    go_ret
    exact ⟨ret_int (by rw [HL.out]; rfl), rfl⟩
  have E1 := Lib.hid (H1.out.trans (decide_eq_false e1))
  have E2 := Lib.hid (H2.out.trans (decide_eq_false e2))
  have hso : signL s.data.toList = if s[0] ∈ sgs then [s[0]] else [] := by
    rw [hcons] at e1 e2 ⊢
    exact signL_one (fun h => h.elim e1 e2)
  have HS := Lib.hid hso
  clear hl2 e1 e2 hcons hso
  rcases indexByte_mem sgs s[0] with ⟨h1, h2⟩ | ⟨h1, h2⟩
  · obtain ⟨m, hm⟩ : ∃ m, Lib.indexByte sgs s[0] = m := ⟨_, rfl⟩
    rw [hm] at h1
    have HM := Lib.hid hm
    have H2 := Lib.hid h2
    clear hm h2
    go_enter Tryd.func43, Tryd.ntmps43
    go_wp2_with (first
      | (go_at_call 25; refine (Tryd.strings_HasPrefix _ _ _).mono ?_; rintro e w' ⟨rfl, rfl⟩; first | rw [show Lib.hasPrefix s.data.toList (⟨#[61, 61]⟩ : ByteArray).data.toList = _ from E1.out] | rw [show Lib.hasPrefix s.data.toList (⟨#[38, 38]⟩ : ByteArray).data.toList = _ from E2.out])
      | (go_at_call 26; refine (Tryd.strings_IndexByte _ _ _).mono ?_; rintro e w' ⟨rfl, rfl⟩; rw [u8_back, show Lib.indexByte (⟨#[123, 125, 40, 41, 60, 62, 44, 59, 46, 61, 43, 45, 42, 33]⟩ : ByteArray).data.toList s[0] = m from HM.out]))
    go_ret
    exact ⟨ret_int (by rw [HS.out, if_pos H2.out]; rfl), rfl⟩
  · have HM := Lib.hid h1
    have H2 := Lib.hid h2
    clear h1 h2
    go_enter Tryd.func43, Tryd.ntmps43
    go_wp2_with (first
      | (go_at_call 25; refine (Tryd.strings_HasPrefix _ _ _).mono ?_; rintro e w' ⟨rfl, rfl⟩; first | rw [show Lib.hasPrefix s.data.toList (⟨#[61, 61]⟩ : ByteArray).data.toList = _ from E1.out] | rw [show Lib.hasPrefix s.data.toList (⟨#[38, 38]⟩ : ByteArray).data.toList = _ from E2.out])
      | (go_at_call 26; refine (Tryd.strings_IndexByte _ _ _).mono ?_; rintro e w' ⟨rfl, rfl⟩; rw [u8_back, show Lib.indexByte (⟨#[123, 125, 40, 41, 60, 62, 44, 59, 46, 61, 43, 45, 42, 33]⟩ : ByteArray).data.toList s[0] = -1 from HM.out]))
    go_ret
    exact ⟨ret_int (by rw [HS.out, if_neg H2.out]; rfl), rfl⟩
end Go.Proofs.YtnindeoemfgkeaaRRRRDoor
