/- Contracts of demesneref07: wrong, ahead. -/
import Derived.Test.YtnindeoemfgkeaaRRRRGot7
namespace Go.Proofs.YtnindeoemfgkeaaRRRR
open Go.RowKit
section
variable (toks : List Tok) (ps : List (List UInt8)) (A PA : Option Addr) (c pc B : Nat) (at_ k : Int) (w : World)
set_option maxRecDepth 100000 in
set_option maxHeartbeats 2000000 in
theorem r07wrong_any (e : Int) (hl : SlB Tok.cells 3 w B A toks) (hn : toks.length ≤ 1000000) :
    Calls Try.prog 48 #[.int .i64 e, .slice A toks.length c, .int .i64 at_] w fun E w' => E = .returned (.agg (got7 (.slice none 0 0) Ty.zero 0 e (tokAt toks at_).pos)) ∧ Grw w w' := by
  go_enter Try.func48, Try.ntmps48
  go_wp2_with (go_at_call 43; refine (r06Tok_any toks A c B _ _ (by repeat (first | exact hl | apply SlB.alloc)) hn).mono ?_; rintro e w' ⟨rfl, hq⟩; obtain ⟨xh, xd, rfl⟩ := hq)
  refine bodyPost_ret (v := .agg (got7 (.slice none 0 0) Ty.zero 0 e (tokAt toks at_).pos)) ?_ rfl ⟨rfl, by first | exact Grw.refl _ | (repeat (first | exact Grw.refl _ | apply Grw.ext | apply Grw.alloc | apply Grw.drewN | apply Grw.drew)); done⟩
  rw [results7 Try.results48 _ _ _ rfl (by simp [go_sem])]
  simp [go_sem]
set_option maxRecDepth 100000 in
set_option maxHeartbeats 4000000 in
theorem r07ahead_any (nm : Bool) (hl : SlB Tok.cells 3 w B A toks) (hn : toks.length ≤ 1000000) (ha : I64 at_) :
    Calls Try.prog 46 #[.slice A toks.length c, .int .i64 at_, .bool nm] w fun e w' => e = .returned (.bool (aheadL toks at_ nm)) ∧ Grw w w' := by
  have tok1 : True := trivial
  by_cases h1 : (tokAt toks (w64 (at_ + 1))).kind = 1
  · have b1 : ((tokAt toks (w64 (at_ + 1))).kind == 1) = true := by simp [h1]
    have HA := Lib.hid (show aheadL toks at_ nm = (!nm || (tokAt toks (w64 (at_ + 2))).kind == 1 || isW (tokAt toks (w64 (at_ + 2))) [60] || isW (tokAt toks (w64 (at_ + 2))) [116, 104, 105, 115] || isW (tokAt toks (w64 (at_ + 2))) [110, 117, 108, 108]) by simp [aheadL, h1])
    clear h1
    cases nm
    · go_enter Try.func46, Try.ntmps46
      go_wp2_with (first | (go_at_call 43; have _t := tok1; refine (r06Tok_any toks A c B _ _ (by repeat (first | exact hl | apply SlB.alloc | apply SlB.ext)) hn).mono ?_; clear tok1; rintro e w' ⟨rfl, hq⟩; obtain ⟨xh, xd, rfl⟩ := hq) | (go_at_call 43; refine (r06Tok_any toks A c B _ _ (by repeat (first | exact hl | apply SlB.alloc | apply SlB.ext)) hn).mono ?_; rintro e w' ⟨rfl, hq⟩; obtain ⟨yh, yd, rfl⟩ := hq) | (go_at_call 44; refine (r03Is_any _ _ _ _ _).mono ?_; rintro e w' ⟨rfl, hq⟩; obtain ⟨zh, zd, rfl⟩ := hq; first | rw [show isW ⟨(tokAt toks (w64 (at_ + 2))).kind, (tokAt toks (w64 (at_ + 2))).text, (tokAt toks (w64 (at_ + 2))).pos⟩ (⟨#[60]⟩ : ByteArray).data.toList = _ from H1.out] | rw [show isW ⟨(tokAt toks (w64 (at_ + 2))).kind, (tokAt toks (w64 (at_ + 2))).text, (tokAt toks (w64 (at_ + 2))).pos⟩ (⟨#[116, 104, 105, 115]⟩ : ByteArray).data.toList = _ from H2.out] | rw [show isW ⟨(tokAt toks (w64 (at_ + 2))).kind, (tokAt toks (w64 (at_ + 2))).text, (tokAt toks (w64 (at_ + 2))).pos⟩ (⟨#[110, 117, 108, 108]⟩ : ByteArray).data.toList = _ from H3.out]))
      go_ret
      exact ⟨ret_bool (by rw [HA.out]; rfl), by first | exact Grw.refl _ | (repeat (first | exact Grw.refl _ | apply Grw.ext | apply Grw.alloc | apply Grw.drewN | apply Grw.drew)); done⟩
    · by_cases h2 : (tokAt toks (w64 (at_ + 2))).kind = 1
      · have b2 : ((tokAt toks (w64 (at_ + 2))).kind == 1) = true := by simp [h2]
        clear h2
        go_enter Try.func46, Try.ntmps46
        go_wp2_with (first | (go_at_call 43; have _t := tok1; refine (r06Tok_any toks A c B _ _ (by repeat (first | exact hl | apply SlB.alloc | apply SlB.ext)) hn).mono ?_; clear tok1; rintro e w' ⟨rfl, hq⟩; obtain ⟨xh, xd, rfl⟩ := hq) | (go_at_call 43; refine (r06Tok_any toks A c B _ _ (by repeat (first | exact hl | apply SlB.alloc | apply SlB.ext)) hn).mono ?_; rintro e w' ⟨rfl, hq⟩; obtain ⟨yh, yd, rfl⟩ := hq) | (go_at_call 44; refine (r03Is_any _ _ _ _ _).mono ?_; rintro e w' ⟨rfl, hq⟩; obtain ⟨zh, zd, rfl⟩ := hq; first | rw [show isW ⟨(tokAt toks (w64 (at_ + 2))).kind, (tokAt toks (w64 (at_ + 2))).text, (tokAt toks (w64 (at_ + 2))).pos⟩ (⟨#[60]⟩ : ByteArray).data.toList = _ from H1.out] | rw [show isW ⟨(tokAt toks (w64 (at_ + 2))).kind, (tokAt toks (w64 (at_ + 2))).text, (tokAt toks (w64 (at_ + 2))).pos⟩ (⟨#[116, 104, 105, 115]⟩ : ByteArray).data.toList = _ from H2.out] | rw [show isW ⟨(tokAt toks (w64 (at_ + 2))).kind, (tokAt toks (w64 (at_ + 2))).text, (tokAt toks (w64 (at_ + 2))).pos⟩ (⟨#[110, 117, 108, 108]⟩ : ByteArray).data.toList = _ from H3.out]))
        go_ret
        exact ⟨ret_bool (by rw [HA.out, b2]; rfl), by first | exact Grw.refl _ | (repeat (first | exact Grw.refl _ | apply Grw.ext | apply Grw.alloc | apply Grw.drewN | apply Grw.drew)); done⟩
      · have b2 : ((tokAt toks (w64 (at_ + 2))).kind == 1) = false := by simp [h2]
        rw [b2] at HA
        cases h3 : isW (tokAt toks (w64 (at_ + 2))) [60]
        · cases h4 : isW (tokAt toks (w64 (at_ + 2))) [116, 104, 105, 115]
          · cases h5 : isW (tokAt toks (w64 (at_ + 2))) [110, 117, 108, 108]
            all_goals
              rw [h3, h4, h5] at HA
              have H1 := Lib.hid h3
              have H2 := Lib.hid h4
              have H3 := Lib.hid h5
              clear h2 h3 h4 h5
              go_enter Try.func46, Try.ntmps46
              go_wp2_with (first | (go_at_call 43; have _t := tok1; refine (r06Tok_any toks A c B _ _ (by repeat (first | exact hl | apply SlB.alloc | apply SlB.ext)) hn).mono ?_; clear tok1; rintro e w' ⟨rfl, hq⟩; obtain ⟨xh, xd, rfl⟩ := hq) | (go_at_call 43; refine (r06Tok_any toks A c B _ _ (by repeat (first | exact hl | apply SlB.alloc | apply SlB.ext)) hn).mono ?_; rintro e w' ⟨rfl, hq⟩; obtain ⟨yh, yd, rfl⟩ := hq) | (go_at_call 44; refine (r03Is_any _ _ _ _ _).mono ?_; rintro e w' ⟨rfl, hq⟩; obtain ⟨zh, zd, rfl⟩ := hq; first | rw [show isW ⟨(tokAt toks (w64 (at_ + 2))).kind, (tokAt toks (w64 (at_ + 2))).text, (tokAt toks (w64 (at_ + 2))).pos⟩ (⟨#[60]⟩ : ByteArray).data.toList = _ from H1.out] | rw [show isW ⟨(tokAt toks (w64 (at_ + 2))).kind, (tokAt toks (w64 (at_ + 2))).text, (tokAt toks (w64 (at_ + 2))).pos⟩ (⟨#[116, 104, 105, 115]⟩ : ByteArray).data.toList = _ from H2.out] | rw [show isW ⟨(tokAt toks (w64 (at_ + 2))).kind, (tokAt toks (w64 (at_ + 2))).text, (tokAt toks (w64 (at_ + 2))).pos⟩ (⟨#[110, 117, 108, 108]⟩ : ByteArray).data.toList = _ from H3.out]))
              go_ret
              exact ⟨ret_bool (by rw [HA.out]; rfl), by first | exact Grw.refl _ | (repeat (first | exact Grw.refl _ | apply Grw.ext | apply Grw.alloc | apply Grw.drewN | apply Grw.drew)); done⟩
          · rw [h3, h4] at HA
            have H1 := Lib.hid h3
            have H2 := Lib.hid h4
            have H3 := Lib.hid h4
            clear h2 h3 h4
            go_enter Try.func46, Try.ntmps46
            go_wp2_with (first | (go_at_call 43; have _t := tok1; refine (r06Tok_any toks A c B _ _ (by repeat (first | exact hl | apply SlB.alloc | apply SlB.ext)) hn).mono ?_; clear tok1; rintro e w' ⟨rfl, hq⟩; obtain ⟨xh, xd, rfl⟩ := hq) | (go_at_call 43; refine (r06Tok_any toks A c B _ _ (by repeat (first | exact hl | apply SlB.alloc | apply SlB.ext)) hn).mono ?_; rintro e w' ⟨rfl, hq⟩; obtain ⟨yh, yd, rfl⟩ := hq) | (go_at_call 44; refine (r03Is_any _ _ _ _ _).mono ?_; rintro e w' ⟨rfl, hq⟩; obtain ⟨zh, zd, rfl⟩ := hq; first | rw [show isW ⟨(tokAt toks (w64 (at_ + 2))).kind, (tokAt toks (w64 (at_ + 2))).text, (tokAt toks (w64 (at_ + 2))).pos⟩ (⟨#[60]⟩ : ByteArray).data.toList = _ from H1.out] | rw [show isW ⟨(tokAt toks (w64 (at_ + 2))).kind, (tokAt toks (w64 (at_ + 2))).text, (tokAt toks (w64 (at_ + 2))).pos⟩ (⟨#[116, 104, 105, 115]⟩ : ByteArray).data.toList = _ from H2.out] | rw [show isW ⟨(tokAt toks (w64 (at_ + 2))).kind, (tokAt toks (w64 (at_ + 2))).text, (tokAt toks (w64 (at_ + 2))).pos⟩ (⟨#[110, 117, 108, 108]⟩ : ByteArray).data.toList = _ from H3.out]))
            go_ret
            exact ⟨ret_bool (by rw [HA.out]; rfl), by first | exact Grw.refl _ | (repeat (first | exact Grw.refl _ | apply Grw.ext | apply Grw.alloc | apply Grw.drewN | apply Grw.drew)); done⟩
        · rw [h3] at HA
          have H1 := Lib.hid h3
          have H2 := Lib.hid h3
          have H3 := Lib.hid h3
          clear h2 h3
          go_enter Try.func46, Try.ntmps46
          go_wp2_with (first | (go_at_call 43; have _t := tok1; refine (r06Tok_any toks A c B _ _ (by repeat (first | exact hl | apply SlB.alloc | apply SlB.ext)) hn).mono ?_; clear tok1; rintro e w' ⟨rfl, hq⟩; obtain ⟨xh, xd, rfl⟩ := hq) | (go_at_call 43; refine (r06Tok_any toks A c B _ _ (by repeat (first | exact hl | apply SlB.alloc | apply SlB.ext)) hn).mono ?_; rintro e w' ⟨rfl, hq⟩; obtain ⟨yh, yd, rfl⟩ := hq) | (go_at_call 44; refine (r03Is_any _ _ _ _ _).mono ?_; rintro e w' ⟨rfl, hq⟩; obtain ⟨zh, zd, rfl⟩ := hq; first | rw [show isW ⟨(tokAt toks (w64 (at_ + 2))).kind, (tokAt toks (w64 (at_ + 2))).text, (tokAt toks (w64 (at_ + 2))).pos⟩ (⟨#[60]⟩ : ByteArray).data.toList = _ from H1.out] | rw [show isW ⟨(tokAt toks (w64 (at_ + 2))).kind, (tokAt toks (w64 (at_ + 2))).text, (tokAt toks (w64 (at_ + 2))).pos⟩ (⟨#[116, 104, 105, 115]⟩ : ByteArray).data.toList = _ from H2.out] | rw [show isW ⟨(tokAt toks (w64 (at_ + 2))).kind, (tokAt toks (w64 (at_ + 2))).text, (tokAt toks (w64 (at_ + 2))).pos⟩ (⟨#[110, 117, 108, 108]⟩ : ByteArray).data.toList = _ from H3.out]))
          go_ret
          exact ⟨ret_bool (by rw [HA.out]; rfl), by first | exact Grw.refl _ | (repeat (first | exact Grw.refl _ | apply Grw.ext | apply Grw.alloc | apply Grw.drewN | apply Grw.drew)); done⟩
  · have b1 : ((tokAt toks (w64 (at_ + 1))).kind == 1) = false := by simpa using h1
    have HA := Lib.hid (show aheadL toks at_ nm = false by simp [aheadL, h1])
    clear h1
    go_enter Try.func46, Try.ntmps46
    go_wp2_with (first | (go_at_call 43; have _t := tok1; refine (r06Tok_any toks A c B _ _ (by repeat (first | exact hl | apply SlB.alloc | apply SlB.ext)) hn).mono ?_; clear tok1; rintro e w' ⟨rfl, hq⟩; obtain ⟨xh, xd, rfl⟩ := hq) | (go_at_call 43; refine (r06Tok_any toks A c B _ _ (by repeat (first | exact hl | apply SlB.alloc | apply SlB.ext)) hn).mono ?_; rintro e w' ⟨rfl, hq⟩; obtain ⟨yh, yd, rfl⟩ := hq) | (go_at_call 44; refine (r03Is_any _ _ _ _ _).mono ?_; rintro e w' ⟨rfl, hq⟩; obtain ⟨zh, zd, rfl⟩ := hq; first | rw [show isW ⟨(tokAt toks (w64 (at_ + 2))).kind, (tokAt toks (w64 (at_ + 2))).text, (tokAt toks (w64 (at_ + 2))).pos⟩ (⟨#[60]⟩ : ByteArray).data.toList = _ from H1.out] | rw [show isW ⟨(tokAt toks (w64 (at_ + 2))).kind, (tokAt toks (w64 (at_ + 2))).text, (tokAt toks (w64 (at_ + 2))).pos⟩ (⟨#[116, 104, 105, 115]⟩ : ByteArray).data.toList = _ from H2.out] | rw [show isW ⟨(tokAt toks (w64 (at_ + 2))).kind, (tokAt toks (w64 (at_ + 2))).text, (tokAt toks (w64 (at_ + 2))).pos⟩ (⟨#[110, 117, 108, 108]⟩ : ByteArray).data.toList = _ from H3.out]))
    go_ret
    exact ⟨ret_bool (by rw [HA.out]), by first | exact Grw.refl _ | (repeat (first | exact Grw.refl _ | apply Grw.ext | apply Grw.alloc | apply Grw.drewN | apply Grw.drew)); done⟩
end
end Go.Proofs.YtnindeoemfgkeaaRRRR
