/- Contract of the program's layer 3 (token): kinds. -/
import Derived.Test.YtnindeoemfgkeaaRRRRDoorTok1
import Derived.Test.YtnindeoemfgkeaaRRRRDoorRef03Of
namespace Go.Proofs.YtnindeoemfgkeaaRRRRDoor
open Go.RowKit
/-- The kind of what a text begins with, and how long it is. -/
def kindsL (l : List UInt8) : Nat × Nat :=
  match l with
  | [] => (0, 0)
  | c :: _ => if letterI c.toNat then (if 0 < findW (l.take (twl innerB l)) then 3 else 1, twl innerB l)
    else if digitI c.toNat then (2, twl digB l) else (4, (signL l).length)
theorem signL_take (l : List UInt8) : signL l = l.take (signL l).length := by
  unfold signL
  split
  · rw [List.length_take, List.take_eq_take_iff]; omega
  · cases l with
    | nil => rfl
    | cons c r => dsimp only; split <;> simp
theorem kinds_one (l : List UInt8) (h : l ≠ []) : ((kindsL l).2 = 0 ∧ (oneL l).1 = 0) ∨ (0 < (kindsL l).2 ∧ (oneL l).1 = (kindsL l).1 ∧ (oneL l).1 ≠ 0 ∧ (oneL l).2 = l.take (kindsL l).2 ∧ (oneL l).2.length = (kindsL l).2) := by
  cases l with
  | nil => exact absurd rfl h
  | cons c r =>
    unfold kindsL oneL
    dsimp only
    split
    · rename_i hc
      have hin : innerB c = true := by simp [innerB, hc]
      have := twl_yes (r := r) hin
      have hle := twl_le innerB (c :: r)
      refine .inr ⟨by dsimp only; omega, rfl, ?_, rfl, ?_⟩
      · dsimp only; split <;> simp
      · dsimp only; rw [List.length_take]; omega
    · split
      · rename_i hd
        have hin : digB c = true := hd
        have := twl_yes (r := r) hin
        have hle := twl_le digB (c :: r)
        refine .inr ⟨by dsimp only; omega, rfl, by simp, rfl, ?_⟩
        dsimp only; rw [List.length_take]; omega
      · split
        · rename_i hs; exact .inl ⟨by dsimp only; rw [hs]; rfl, rfl⟩
        · rename_i hs
          have := List.length_pos_iff.2 hs
          exact .inr ⟨this, rfl, by simp, signL_take _, rfl⟩
set_option maxHeartbeats 2000000 in
theorem tKinds_any (s : ByteArray) (w : World) (hw : Wd w) (h0 : 0 < s.size) (hs : s.size ≤ 1000000000) :
    Calls Tryd.prog 27 #[.string s] w fun e w' => e = .returned (.tuple #[.int .i64 (kindsL s.data.toList).1, .int .i64 (kindsL s.data.toList).2]) ∧ Grw w w' := by
  have f0 : (0 : Int) < (s.size : Int) := by omega
  have hcons := drop_get s 0 h0
  rw [List.drop_zero] at hcons
  have hk : kindsL s.data.toList = if letterI (s[0]).toNat then (if 0 < findW (s.data.toList.take (twl innerB s.data.toList)) then 3 else 1, twl innerB s.data.toList)
    else if digitI (s[0]).toNat then (2, twl digB s.data.toList) else (4, (signL s.data.toList).length) := by rw [hcons]; rfl
  cases hl : letterI (s[0]).toNat
  · have HL := Lib.hid hl
    cases hd : digitI (s[0]).toNat
    · have HD := Lib.hid hd
      have HK := Lib.hid (hk.trans (by rw [hl, hd]; first | done | rfl))
      clear hl hd hk hcons
      go_enter Tryd.func27, Tryd.ntmps27
      go_wp2_with (first
        | (go_at_call 39; refine (wLetter_any _ _).mono ?_; rintro e w' ⟨rfl, rfl⟩; rw [HL.out])
        | (go_at_call 42; refine (wDigit_any _ _).mono ?_; rintro e w' ⟨rfl, rfl⟩; rw [HD.out])
        | (go_at_call 43; refine (tSigns_any _ _ h0).mono ?_; rintro e w' ⟨rfl, rfl⟩))
      go_ret2
      exact ⟨by rw [HK.out]; rfl, by first | exact Grw.refl _ | (repeat (first | exact Grw.refl _ | apply Grw.ext | apply Grw.alloc | apply Grw.drewN | apply Grw.drew)); done⟩
    · have HD := Lib.hid hd
      have HK := Lib.hid (hk.trans (by rw [hl, hd]; first | done | rfl))
      clear hl hd hk hcons
      go_enter Tryd.func27, Tryd.ntmps27
      go_wp2_with (first
        | (go_at_call 39; refine (wLetter_any _ _).mono ?_; rintro e w' ⟨rfl, rfl⟩; rw [HL.out])
        | (go_at_call 42; refine (wDigit_any _ _).mono ?_; rintro e w' ⟨rfl, rfl⟩; rw [HD.out])
        | (go_at_call 23; refine (runDigit _ _ hs).mono ?_; rintro e w' ⟨rfl, rfl⟩))
      go_ret2
      exact ⟨by rw [HK.out]; rfl, by first | exact Grw.refl _ | (repeat (first | exact Grw.refl _ | apply Grw.ext | apply Grw.alloc | apply Grw.drewN | apply Grw.drew)); done⟩
  · have HL := Lib.hid hl
    have hle := twl_le innerB s.data.toList
    rw [← size_eq] at hle
    obtain ⟨n, hn⟩ : ∃ n, twl innerB s.data.toList = n := ⟨_, rfl⟩
    rw [hn] at hle hk
    have HN := Lib.hid hn
    have HX := Lib.hid (eq_bs (extract_beg s n))
    rw [hl, if_pos rfl] at hk
    clear hn hl hcons
    have f1 : (n : Int) ≤ (s.size : Int) := by omega
    by_cases hf : 0 < findW (s.data.toList.take n)
    · have HK := Lib.hid (hk.trans (by rw [if_pos hf]))
      have f2 : (0 : Int) < (findW (s.data.toList.take n) : Int) := by omega
      clear hk
      go_enter Tryd.func27, Tryd.ntmps27
      go_wp2_with (first
        | (go_at_call 39; refine (wLetter_any _ _).mono ?_; rintro e w' ⟨rfl, rfl⟩; rw [HL.out])
        | (go_at_call 23; refine (runInner _ _ hs).mono ?_; rintro e w' ⟨rfl, rfl⟩; rw [HN.out])
        | (go_at_call 41; rw [HX.out]; refine (wFind_any _ _ (by repeat (first | exact hw | apply Wd.ext | apply Wd.alloc | apply Wd.drewN | apply Wd.drew))).mono ?_; rintro e w' ⟨rfl, hq⟩; obtain ⟨xh, xd, rfl⟩ := hq))
      go_ret2
      exact ⟨by rw [HK.out]; rfl, by first | exact Grw.refl _ | (repeat (first | exact Grw.refl _ | apply Grw.ext | apply Grw.alloc | apply Grw.drewN | apply Grw.drew)); done⟩
    · have HK := Lib.hid (hk.trans (by rw [if_neg hf]))
      have f2 : (findW (s.data.toList.take n) : Int) ≤ 0 := by omega
      clear hk
      go_enter Tryd.func27, Tryd.ntmps27
      go_wp2_with (first
        | (go_at_call 39; refine (wLetter_any _ _).mono ?_; rintro e w' ⟨rfl, rfl⟩; rw [HL.out])
        | (go_at_call 23; refine (runInner _ _ hs).mono ?_; rintro e w' ⟨rfl, rfl⟩; rw [HN.out])
        | (go_at_call 41; rw [HX.out]; refine (wFind_any _ _ (by repeat (first | exact hw | apply Wd.ext | apply Wd.alloc | apply Wd.drewN | apply Wd.drew))).mono ?_; rintro e w' ⟨rfl, hq⟩; obtain ⟨xh, xd, rfl⟩ := hq))
      go_ret2
      exact ⟨by rw [HK.out]; rfl, by first | exact Grw.refl _ | (repeat (first | exact Grw.refl _ | apply Grw.ext | apply Grw.alloc | apply Grw.drewN | apply Grw.drew)); done⟩
end Go.Proofs.YtnindeoemfgkeaaRRRRDoor
