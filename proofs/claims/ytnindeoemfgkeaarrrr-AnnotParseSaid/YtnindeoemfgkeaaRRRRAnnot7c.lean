/- Contract of annot's reader: typ: one theorem for each way through it. -/
import Derived.Test.YtnindeoemfgkeaaRRRRAnnot7
namespace Go.Proofs.YtnindeoemfgkeaaRRRR
open Go.RowKit
section
variable (toks : List Tok) (ps : List (List UInt8)) (A PA : Option Addr) (c pc g B : Nat) (at_ fe fa k : Int) (w : World)
set_option maxRecDepth 100000 in
set_option maxHeartbeats 4000000 in
theorem aTyp_nma (nm : Bool) (hr : Rd toks ps A PA B g w) (ha : I64 at_) (hv : isW (tokAt toks at_) [118, 111, 105, 100] = false) (hi : isW (tokAt toks at_) [105, 110, 116] = false) (hk : knownO (tokAt toks at_) = 0) (h1 : (tokAt toks at_).kind = 1) (hah : aheadL toks at_ nm = true) (h0 : idxIn (tokAt toks at_).text ps 0 ≠ 0) (hc : (tokAt toks (w64 (at_ + 1))).kind ≠ 1) :
    Calls Try.prog 42 #[.pointer (some ⟨g, 0, none⟩), .bool nm] (sb w g 109 #[.slice A toks.length c, .int .i64 (at_), .slice PA ps.length pc, .int .i64 (fe), .int .i64 (fa)]) (TypPost toks ps A PA c pc g fe fa w (parseB toks ps (w64 (at_ + 1)) (3, (idxIn (tokAt toks at_).text ps 0 : Int)))) := by
  have hg := hr.hg
  have b1 : ((tokAt toks at_).kind == 1) = true := by simp [h1]
  obtain ⟨m, hm⟩ : ∃ m : Int, ((idxIn (tokAt toks at_).text ps 0 : Nat) : Int) = m := ⟨_, rfl⟩
  rw [hm]
  have HM := Lib.hid hm
  have HK := Lib.hid hk
  have HV := Lib.hid hv
  have HI := Lib.hid hi
  have HA := Lib.hid hah
  have H0 := Lib.hid h0
  clear hk hv hi hah h0 h1 hm
  have HR := Lib.hid (show parseB toks ps (w64 (at_ + 1)) (3, m) = (Ty.zero, 0, 3, (tokAt toks (w64 (at_ + 1))).pos) by rw [parseB, if_neg hc])
  rw [HR.out]
  have bc : ((tokAt toks (w64 (at_ + 1))).kind != 1) = true := by simpa using hc
  clear hc
  have tok1 : True := trivial
  have tok2 : True := trivial
  go_enter Try.func42, Try.ntmps42
  go_wp2_with (first
        | (go_at_call 68; have _t := tok1; refine (aLook_zero toks ps A PA c pc g B at_ fe fa _ (by repeat (first | exact hr | apply Rd.ext | apply Rd.alloc | apply Rd.sb | apply Rd.drewN | apply Rd.drew)) (by repeat (first | exact blk_sb _ _ _ _ hg | exact hg | apply blk_ext | apply blk_alloc | apply blk_drewN | apply blk_drew)) ha).mono ?_; clear tok1; rintro e w' ⟨rfl, hq⟩; obtain ⟨xh, xd, rfl⟩ := hq)
        | (go_at_call 71; refine (aKnown_any _ _ _ _).mono ?_; rintro e w' ⟨rfl, hq⟩; obtain ⟨yh, yd, rfl⟩ := hq; rw [show knownO ⟨(tokAt toks at_).kind, (tokAt toks at_).text, (tokAt toks at_).pos⟩ = _ from HK.out])
        | (go_at_call 69; have _t := tok2; refine (aIs_zero toks ps A PA c pc g B at_ fe fa _ _ (by repeat (first | exact hr | apply Rd.ext | apply Rd.alloc | apply Rd.sb | apply Rd.drewN | apply Rd.drew)) (by repeat (first | exact blk_sb _ _ _ _ hg | exact hg | apply blk_ext | apply blk_alloc | apply blk_drewN | apply blk_drew)) ha).mono ?_; rintro e w' ⟨rfl, hq⟩; obtain ⟨vh, vd, rfl⟩ := hq; first | (rw [show isW (tokAt toks at_) (⟨#[118, 111, 105, 100]⟩ : ByteArray).data.toList = _ from HV.out]) | (rw [show isW (tokAt toks at_) (⟨#[105, 110, 116]⟩ : ByteArray).data.toList = _ from HI.out]; clear tok2))
        | (go_at_call 72; refine (aAhead_any toks ps A PA c pc g B at_ fe fa _ _ (by repeat (first | exact hr | apply Rd.ext | apply Rd.alloc | apply Rd.sb | apply Rd.drewN | apply Rd.drew)) (by repeat (first | exact blk_sb _ _ _ _ hg | exact hg | apply blk_ext | apply blk_alloc | apply blk_drewN | apply blk_drew)) ha).mono ?_; rintro e w' ⟨rfl, hq⟩; obtain ⟨uh, ud, rfl⟩ := hq; rw [HA.out])
        | (go_at_call 73; refine (aParam_any toks ps A PA c pc g B at_ fe fa _ (by repeat (first | exact hr | apply Rd.ext | apply Rd.alloc | apply Rd.sb | apply Rd.drewN | apply Rd.drew)) (by repeat (first | exact blk_sb _ _ _ _ hg | exact hg | apply blk_ext | apply blk_alloc | apply blk_drewN | apply blk_drew)) ha).mono ?_; rintro e w' hq; obtain ⟨rfl, hq2⟩ := hq.2 H0.out; clear hq; obtain ⟨zh, zd, rfl⟩ := hq2; rw [HM.out])
        | (go_at_call 68; refine (aLook_zero toks ps A PA c pc g B (w64 (at_ + 1)) fe fa _ (by repeat (first | exact hr | apply Rd.ext | apply Rd.alloc | apply Rd.sb | apply Rd.drewN | apply Rd.drew)) (by repeat (first | exact blk_sb _ _ _ _ hg | exact hg | apply blk_ext | apply blk_alloc | apply blk_drewN | apply blk_drew)) (I64_w64 _)).mono ?_; rintro e w' ⟨rfl, hq⟩; obtain ⟨rh, rd, rfl⟩ := hq)
        | (go_at_call 70; refine (aBad_any toks ps A PA c pc g B (w64 (at_ + 1)) fe fa _ _ (by repeat (first | exact hr | apply Rd.ext | apply Rd.alloc | apply Rd.sb | apply Rd.drewN | apply Rd.drew)) (by repeat (first | exact blk_sb _ _ _ _ hg | exact hg | apply blk_ext | apply blk_alloc | apply blk_drewN | apply blk_drew)) (I64_w64 _)).mono ?_; rintro e w' ⟨rfl, hq⟩; obtain ⟨sh, sd, rfl⟩ := hq)
        | (go_at_call 69; refine (aIs_zero toks ps A PA c pc g B (w64 ((w64 (at_ + 1)) + 1)) fe fa _ _ (by repeat (first | exact hr | apply Rd.ext | apply Rd.alloc | apply Rd.sb | apply Rd.drewN | apply Rd.drew)) (by repeat (first | exact blk_sb _ _ _ _ hg | exact hg | apply blk_ext | apply blk_alloc | apply blk_drewN | apply blk_drew)) (I64_w64 _)).mono ?_; rintro e w' ⟨rfl, hq⟩; obtain ⟨sh, sd, rfl⟩ := hq; rw [show isW (tokAt toks (w64 ((w64 (at_ + 1)) + 1))) (⟨#[60]⟩ : ByteArray).data.toList = _ from HL.out])
        | (go_at_call 49; refine (aOwners_any toks ps A PA c pc g B (w64 ((w64 (at_ + 1)) + 1)) fe fa _ (by repeat (first | exact hr | apply Rd.ext | apply Rd.alloc | apply Rd.sb | apply Rd.drewN | apply Rd.drew)) (by repeat (first | exact blk_sb _ _ _ _ hg | exact hg | apply blk_ext | apply blk_alloc | apply blk_drewN | apply blk_drew)) (I64_w64 _)).mono ?_; rintro e w' hq; fail))
  exact bodyPost_ret (v := .tuple #[.agg #[.int .i64 0, .string ⟨#[]⟩, .int .i64 0, .int .i64 0, .int .i64 0, .int .i64 0, .int .i64 0, .int .i64 0, .int .i64 0, .int .i64 0, .int .i64 0], .bool false]) (by simp [results, Try.results42, go_sem]) rfl ⟨fun h => absurd h (by simp), fun _ => ⟨rfl, (w64 (at_ + 1)), by first | exact Grw.refl _ | (repeat (first | exact Grw.refl _ | apply Grw.ext | apply Grw.alloc | apply Grw.drewN | apply Grw.drew)); done⟩⟩
set_option maxRecDepth 100000 in
set_option maxHeartbeats 4000000 in
theorem aTyp_nmb (nm : Bool) (hr : Rd toks ps A PA B g w) (ha : I64 at_) (hv : isW (tokAt toks at_) [118, 111, 105, 100] = false) (hi : isW (tokAt toks at_) [105, 110, 116] = false) (hk : knownO (tokAt toks at_) = 0) (h1 : (tokAt toks at_).kind = 1) (hah : aheadL toks at_ nm = true) (h0 : idxIn (tokAt toks at_).text ps 0 ≠ 0) (hc : (tokAt toks (w64 (at_ + 1))).kind = 1) (hl : isW (tokAt toks (w64 ((w64 (at_ + 1)) + 1))) [60] = false) :
    Calls Try.prog 42 #[.pointer (some ⟨g, 0, none⟩), .bool nm] (sb w g 109 #[.slice A toks.length c, .int .i64 (at_), .slice PA ps.length pc, .int .i64 (fe), .int .i64 (fa)]) (TypPost toks ps A PA c pc g fe fa w (parseB toks ps (w64 (at_ + 1)) (3, (idxIn (tokAt toks at_).text ps 0 : Int)))) := by
  have hg := hr.hg
  have b1 : ((tokAt toks at_).kind == 1) = true := by simp [h1]
  obtain ⟨m, hm⟩ : ∃ m : Int, ((idxIn (tokAt toks at_).text ps 0 : Nat) : Int) = m := ⟨_, rfl⟩
  rw [hm]
  have HM := Lib.hid hm
  have HK := Lib.hid hk
  have HV := Lib.hid hv
  have HI := Lib.hid hi
  have HA := Lib.hid hah
  have H0 := Lib.hid h0
  clear hk hv hi hah h0 h1 hm
  have HR := Lib.hid (show parseB toks ps (w64 (at_ + 1)) (3, m) = (⟨2, (tokAt toks (w64 (at_ + 1))).text, 0, (3, m), (0, 0), (0, 0), (0, 0)⟩, (w64 ((w64 (at_ + 1)) + 1)), 0, 0) by rw [parseB, if_pos hc, hl]; rfl)
  rw [HR.out]
  have bc : ((tokAt toks (w64 (at_ + 1))).kind != 1) = false := by simp [hc]
  have HL := Lib.hid hl
  clear hc hl
  have tok1 : True := trivial
  have tok2 : True := trivial
  go_enter Try.func42, Try.ntmps42
  go_wp2_with (first
        | (go_at_call 68; have _t := tok1; refine (aLook_zero toks ps A PA c pc g B at_ fe fa _ (by repeat (first | exact hr | apply Rd.ext | apply Rd.alloc | apply Rd.sb | apply Rd.drewN | apply Rd.drew)) (by repeat (first | exact blk_sb _ _ _ _ hg | exact hg | apply blk_ext | apply blk_alloc | apply blk_drewN | apply blk_drew)) ha).mono ?_; clear tok1; rintro e w' ⟨rfl, hq⟩; obtain ⟨xh, xd, rfl⟩ := hq)
        | (go_at_call 71; refine (aKnown_any _ _ _ _).mono ?_; rintro e w' ⟨rfl, hq⟩; obtain ⟨yh, yd, rfl⟩ := hq; rw [show knownO ⟨(tokAt toks at_).kind, (tokAt toks at_).text, (tokAt toks at_).pos⟩ = _ from HK.out])
        | (go_at_call 69; have _t := tok2; refine (aIs_zero toks ps A PA c pc g B at_ fe fa _ _ (by repeat (first | exact hr | apply Rd.ext | apply Rd.alloc | apply Rd.sb | apply Rd.drewN | apply Rd.drew)) (by repeat (first | exact blk_sb _ _ _ _ hg | exact hg | apply blk_ext | apply blk_alloc | apply blk_drewN | apply blk_drew)) ha).mono ?_; rintro e w' ⟨rfl, hq⟩; obtain ⟨vh, vd, rfl⟩ := hq; first | (rw [show isW (tokAt toks at_) (⟨#[118, 111, 105, 100]⟩ : ByteArray).data.toList = _ from HV.out]) | (rw [show isW (tokAt toks at_) (⟨#[105, 110, 116]⟩ : ByteArray).data.toList = _ from HI.out]; clear tok2))
        | (go_at_call 72; refine (aAhead_any toks ps A PA c pc g B at_ fe fa _ _ (by repeat (first | exact hr | apply Rd.ext | apply Rd.alloc | apply Rd.sb | apply Rd.drewN | apply Rd.drew)) (by repeat (first | exact blk_sb _ _ _ _ hg | exact hg | apply blk_ext | apply blk_alloc | apply blk_drewN | apply blk_drew)) ha).mono ?_; rintro e w' ⟨rfl, hq⟩; obtain ⟨uh, ud, rfl⟩ := hq; rw [HA.out])
        | (go_at_call 73; refine (aParam_any toks ps A PA c pc g B at_ fe fa _ (by repeat (first | exact hr | apply Rd.ext | apply Rd.alloc | apply Rd.sb | apply Rd.drewN | apply Rd.drew)) (by repeat (first | exact blk_sb _ _ _ _ hg | exact hg | apply blk_ext | apply blk_alloc | apply blk_drewN | apply blk_drew)) ha).mono ?_; rintro e w' hq; obtain ⟨rfl, hq2⟩ := hq.2 H0.out; clear hq; obtain ⟨zh, zd, rfl⟩ := hq2; rw [HM.out])
        | (go_at_call 68; refine (aLook_zero toks ps A PA c pc g B (w64 (at_ + 1)) fe fa _ (by repeat (first | exact hr | apply Rd.ext | apply Rd.alloc | apply Rd.sb | apply Rd.drewN | apply Rd.drew)) (by repeat (first | exact blk_sb _ _ _ _ hg | exact hg | apply blk_ext | apply blk_alloc | apply blk_drewN | apply blk_drew)) (I64_w64 _)).mono ?_; rintro e w' ⟨rfl, hq⟩; obtain ⟨rh, rd, rfl⟩ := hq)
        | (go_at_call 70; refine (aBad_any toks ps A PA c pc g B (w64 (at_ + 1)) fe fa _ _ (by repeat (first | exact hr | apply Rd.ext | apply Rd.alloc | apply Rd.sb | apply Rd.drewN | apply Rd.drew)) (by repeat (first | exact blk_sb _ _ _ _ hg | exact hg | apply blk_ext | apply blk_alloc | apply blk_drewN | apply blk_drew)) (I64_w64 _)).mono ?_; rintro e w' ⟨rfl, hq⟩; obtain ⟨sh, sd, rfl⟩ := hq)
        | (go_at_call 69; refine (aIs_zero toks ps A PA c pc g B (w64 ((w64 (at_ + 1)) + 1)) fe fa _ _ (by repeat (first | exact hr | apply Rd.ext | apply Rd.alloc | apply Rd.sb | apply Rd.drewN | apply Rd.drew)) (by repeat (first | exact blk_sb _ _ _ _ hg | exact hg | apply blk_ext | apply blk_alloc | apply blk_drewN | apply blk_drew)) (I64_w64 _)).mono ?_; rintro e w' ⟨rfl, hq⟩; obtain ⟨sh, sd, rfl⟩ := hq; rw [show isW (tokAt toks (w64 ((w64 (at_ + 1)) + 1))) (⟨#[60]⟩ : ByteArray).data.toList = _ from HL.out])
        | (go_at_call 49; refine (aOwners_any toks ps A PA c pc g B (w64 ((w64 (at_ + 1)) + 1)) fe fa _ (by repeat (first | exact hr | apply Rd.ext | apply Rd.alloc | apply Rd.sb | apply Rd.drewN | apply Rd.drew)) (by repeat (first | exact blk_sb _ _ _ _ hg | exact hg | apply blk_ext | apply blk_alloc | apply blk_drewN | apply blk_drew)) (I64_w64 _)).mono ?_; rintro e w' hq; fail))
  exact bodyPost_ret (v := .tuple #[.agg #[.int .i64 2, .string (bs (tokAt toks (w64 (at_ + 1))).text), .int .i64 0, .int .i64 (3), .int .i64 (m), .int .i64 0, .int .i64 0, .int .i64 0, .int .i64 0, .int .i64 0, .int .i64 0], .bool true]) (by simp [results, Try.results42, go_sem]) rfl ⟨fun _ => ⟨rfl, by first | exact Grw.refl _ | (repeat (first | exact Grw.refl _ | apply Grw.ext | apply Grw.alloc | apply Grw.drewN | apply Grw.drew)); done⟩, fun h => absurd rfl h⟩
set_option maxRecDepth 100000 in
set_option maxHeartbeats 4000000 in
theorem aTyp_nmc (nm : Bool) (hr : Rd toks ps A PA B g w) (ha : I64 at_) (hv : isW (tokAt toks at_) [118, 111, 105, 100] = false) (hi : isW (tokAt toks at_) [105, 110, 116] = false) (hk : knownO (tokAt toks at_) = 0) (h1 : (tokAt toks at_).kind = 1) (hah : aheadL toks at_ nm = true) (h0 : idxIn (tokAt toks at_).text ps 0 ≠ 0) (hc : (tokAt toks (w64 (at_ + 1))).kind = 1) (hl : isW (tokAt toks (w64 ((w64 (at_ + 1)) + 1))) [60] = true) (ho : (ownsL toks ps (w64 ((w64 (at_ + 1)) + 1))).2.2.1 ≠ 0) :
    Calls Try.prog 42 #[.pointer (some ⟨g, 0, none⟩), .bool nm] (sb w g 109 #[.slice A toks.length c, .int .i64 (at_), .slice PA ps.length pc, .int .i64 (fe), .int .i64 (fa)]) (TypPost toks ps A PA c pc g fe fa w (parseB toks ps (w64 (at_ + 1)) (3, (idxIn (tokAt toks at_).text ps 0 : Int)))) := by
  have hg := hr.hg
  have b1 : ((tokAt toks at_).kind == 1) = true := by simp [h1]
  obtain ⟨m, hm⟩ : ∃ m : Int, ((idxIn (tokAt toks at_).text ps 0 : Nat) : Int) = m := ⟨_, rfl⟩
  rw [hm]
  have HM := Lib.hid hm
  have HK := Lib.hid hk
  have HV := Lib.hid hv
  have HI := Lib.hid hi
  have HA := Lib.hid hah
  have H0 := Lib.hid h0
  clear hk hv hi hah h0 h1 hm
  have HR := Lib.hid (show parseB toks ps (w64 (at_ + 1)) (3, m) = (Ty.zero, 0, (ownsL toks ps (w64 ((w64 (at_ + 1)) + 1))).2.2.1, (ownsL toks ps (w64 ((w64 (at_ + 1)) + 1))).2.2.2) by rw [parseB, if_pos hc, hl, if_pos rfl, if_neg ho])
  rw [HR.out]
  have bc : ((tokAt toks (w64 (at_ + 1))).kind != 1) = false := by simp [hc]
  have HL := Lib.hid hl
  clear hc hl
  have HO := Lib.hid ho
  clear ho
  have tok1 : True := trivial
  have tok2 : True := trivial
  go_enter Try.func42, Try.ntmps42
  go_wp2_with (first
        | (go_at_call 68; have _t := tok1; refine (aLook_zero toks ps A PA c pc g B at_ fe fa _ (by repeat (first | exact hr | apply Rd.ext | apply Rd.alloc | apply Rd.sb | apply Rd.drewN | apply Rd.drew)) (by repeat (first | exact blk_sb _ _ _ _ hg | exact hg | apply blk_ext | apply blk_alloc | apply blk_drewN | apply blk_drew)) ha).mono ?_; clear tok1; rintro e w' ⟨rfl, hq⟩; obtain ⟨xh, xd, rfl⟩ := hq)
        | (go_at_call 71; refine (aKnown_any _ _ _ _).mono ?_; rintro e w' ⟨rfl, hq⟩; obtain ⟨yh, yd, rfl⟩ := hq; rw [show knownO ⟨(tokAt toks at_).kind, (tokAt toks at_).text, (tokAt toks at_).pos⟩ = _ from HK.out])
        | (go_at_call 69; have _t := tok2; refine (aIs_zero toks ps A PA c pc g B at_ fe fa _ _ (by repeat (first | exact hr | apply Rd.ext | apply Rd.alloc | apply Rd.sb | apply Rd.drewN | apply Rd.drew)) (by repeat (first | exact blk_sb _ _ _ _ hg | exact hg | apply blk_ext | apply blk_alloc | apply blk_drewN | apply blk_drew)) ha).mono ?_; rintro e w' ⟨rfl, hq⟩; obtain ⟨vh, vd, rfl⟩ := hq; first | (rw [show isW (tokAt toks at_) (⟨#[118, 111, 105, 100]⟩ : ByteArray).data.toList = _ from HV.out]) | (rw [show isW (tokAt toks at_) (⟨#[105, 110, 116]⟩ : ByteArray).data.toList = _ from HI.out]; clear tok2))
        | (go_at_call 72; refine (aAhead_any toks ps A PA c pc g B at_ fe fa _ _ (by repeat (first | exact hr | apply Rd.ext | apply Rd.alloc | apply Rd.sb | apply Rd.drewN | apply Rd.drew)) (by repeat (first | exact blk_sb _ _ _ _ hg | exact hg | apply blk_ext | apply blk_alloc | apply blk_drewN | apply blk_drew)) ha).mono ?_; rintro e w' ⟨rfl, hq⟩; obtain ⟨uh, ud, rfl⟩ := hq; rw [HA.out])
        | (go_at_call 73; refine (aParam_any toks ps A PA c pc g B at_ fe fa _ (by repeat (first | exact hr | apply Rd.ext | apply Rd.alloc | apply Rd.sb | apply Rd.drewN | apply Rd.drew)) (by repeat (first | exact blk_sb _ _ _ _ hg | exact hg | apply blk_ext | apply blk_alloc | apply blk_drewN | apply blk_drew)) ha).mono ?_; rintro e w' hq; obtain ⟨rfl, hq2⟩ := hq.2 H0.out; clear hq; obtain ⟨zh, zd, rfl⟩ := hq2; rw [HM.out])
        | (go_at_call 68; refine (aLook_zero toks ps A PA c pc g B (w64 (at_ + 1)) fe fa _ (by repeat (first | exact hr | apply Rd.ext | apply Rd.alloc | apply Rd.sb | apply Rd.drewN | apply Rd.drew)) (by repeat (first | exact blk_sb _ _ _ _ hg | exact hg | apply blk_ext | apply blk_alloc | apply blk_drewN | apply blk_drew)) (I64_w64 _)).mono ?_; rintro e w' ⟨rfl, hq⟩; obtain ⟨rh, rd, rfl⟩ := hq)
        | (go_at_call 70; refine (aBad_any toks ps A PA c pc g B (w64 (at_ + 1)) fe fa _ _ (by repeat (first | exact hr | apply Rd.ext | apply Rd.alloc | apply Rd.sb | apply Rd.drewN | apply Rd.drew)) (by repeat (first | exact blk_sb _ _ _ _ hg | exact hg | apply blk_ext | apply blk_alloc | apply blk_drewN | apply blk_drew)) (I64_w64 _)).mono ?_; rintro e w' ⟨rfl, hq⟩; obtain ⟨sh, sd, rfl⟩ := hq)
        | (go_at_call 69; refine (aIs_zero toks ps A PA c pc g B (w64 ((w64 (at_ + 1)) + 1)) fe fa _ _ (by repeat (first | exact hr | apply Rd.ext | apply Rd.alloc | apply Rd.sb | apply Rd.drewN | apply Rd.drew)) (by repeat (first | exact blk_sb _ _ _ _ hg | exact hg | apply blk_ext | apply blk_alloc | apply blk_drewN | apply blk_drew)) (I64_w64 _)).mono ?_; rintro e w' ⟨rfl, hq⟩; obtain ⟨sh, sd, rfl⟩ := hq; rw [show isW (tokAt toks (w64 ((w64 (at_ + 1)) + 1))) (⟨#[60]⟩ : ByteArray).data.toList = _ from HL.out])
        | (go_at_call 49; refine (aOwners_any toks ps A PA c pc g B (w64 ((w64 (at_ + 1)) + 1)) fe fa _ (by repeat (first | exact hr | apply Rd.ext | apply Rd.alloc | apply Rd.sb | apply Rd.drewN | apply Rd.drew)) (by repeat (first | exact blk_sb _ _ _ _ hg | exact hg | apply blk_ext | apply blk_alloc | apply blk_drewN | apply blk_drew)) (I64_w64 _)).mono ?_; rintro e w' hq; obtain ⟨rfl, at9, hq2⟩ := hq.2 HO.out; clear hq; obtain ⟨qh, qd, rfl⟩ := hq2))
  exact bodyPost_ret (v := .tuple #[.agg #[.int .i64 0, .string ⟨#[]⟩, .int .i64 0, .int .i64 0, .int .i64 0, .int .i64 0, .int .i64 0, .int .i64 0, .int .i64 0, .int .i64 0, .int .i64 0], .bool false]) (by simp [results, Try.results42, go_sem]) rfl ⟨fun h => absurd h HO.out, fun _ => ⟨rfl, at9, by first | exact Grw.refl _ | (repeat (first | exact Grw.refl _ | apply Grw.ext | apply Grw.alloc | apply Grw.drewN | apply Grw.drew)); done⟩⟩
set_option maxRecDepth 100000 in
set_option maxHeartbeats 4000000 in
theorem aTyp_nmd (nm : Bool) (hr : Rd toks ps A PA B g w) (ha : I64 at_) (hv : isW (tokAt toks at_) [118, 111, 105, 100] = false) (hi : isW (tokAt toks at_) [105, 110, 116] = false) (hk : knownO (tokAt toks at_) = 0) (h1 : (tokAt toks at_).kind = 1) (hah : aheadL toks at_ nm = true) (h0 : idxIn (tokAt toks at_).text ps 0 ≠ 0) (hc : (tokAt toks (w64 (at_ + 1))).kind = 1) (hl : isW (tokAt toks (w64 ((w64 (at_ + 1)) + 1))) [60] = true) (ho : (ownsL toks ps (w64 ((w64 (at_ + 1)) + 1))).2.2.1 = 0) :
    Calls Try.prog 42 #[.pointer (some ⟨g, 0, none⟩), .bool nm] (sb w g 109 #[.slice A toks.length c, .int .i64 (at_), .slice PA ps.length pc, .int .i64 (fe), .int .i64 (fa)]) (TypPost toks ps A PA c pc g fe fa w (parseB toks ps (w64 (at_ + 1)) (3, (idxIn (tokAt toks at_).text ps 0 : Int)))) := by
  have hg := hr.hg
  have b1 : ((tokAt toks at_).kind == 1) = true := by simp [h1]
  obtain ⟨m, hm⟩ : ∃ m : Int, ((idxIn (tokAt toks at_).text ps 0 : Nat) : Int) = m := ⟨_, rfl⟩
  rw [hm]
  have HM := Lib.hid hm
  have HK := Lib.hid hk
  have HV := Lib.hid hv
  have HI := Lib.hid hi
  have HA := Lib.hid hah
  have H0 := Lib.hid h0
  clear hk hv hi hah h0 h1 hm
  have HR := Lib.hid (show parseB toks ps (w64 (at_ + 1)) (3, m) = (⟨2, (tokAt toks (w64 (at_ + 1))).text, (ownsL toks ps (w64 ((w64 (at_ + 1)) + 1))).1.length, (3, m), nth2 (ownsL toks ps (w64 ((w64 (at_ + 1)) + 1))).1 0, nth2 (ownsL toks ps (w64 ((w64 (at_ + 1)) + 1))).1 1, nth2 (ownsL toks ps (w64 ((w64 (at_ + 1)) + 1))).1 2⟩, (ownsL toks ps (w64 ((w64 (at_ + 1)) + 1))).2.1, 0, 0) by rw [parseB, if_pos hc, hl, if_pos rfl, if_pos ho])
  rw [HR.out]
  have bc : ((tokAt toks (w64 (at_ + 1))).kind != 1) = false := by simp [hc]
  have HL := Lib.hid hl
  clear hc hl
  have HO := Lib.hid ho
  clear ho
  have tok1 : True := trivial
  have tok2 : True := trivial
  go_enter Try.func42, Try.ntmps42
  go_wp2_with (first
        | (go_at_call 68; have _t := tok1; refine (aLook_zero toks ps A PA c pc g B at_ fe fa _ (by repeat (first | exact hr | apply Rd.ext | apply Rd.alloc | apply Rd.sb | apply Rd.drewN | apply Rd.drew)) (by repeat (first | exact blk_sb _ _ _ _ hg | exact hg | apply blk_ext | apply blk_alloc | apply blk_drewN | apply blk_drew)) ha).mono ?_; clear tok1; rintro e w' ⟨rfl, hq⟩; obtain ⟨xh, xd, rfl⟩ := hq)
        | (go_at_call 71; refine (aKnown_any _ _ _ _).mono ?_; rintro e w' ⟨rfl, hq⟩; obtain ⟨yh, yd, rfl⟩ := hq; rw [show knownO ⟨(tokAt toks at_).kind, (tokAt toks at_).text, (tokAt toks at_).pos⟩ = _ from HK.out])
        | (go_at_call 69; have _t := tok2; refine (aIs_zero toks ps A PA c pc g B at_ fe fa _ _ (by repeat (first | exact hr | apply Rd.ext | apply Rd.alloc | apply Rd.sb | apply Rd.drewN | apply Rd.drew)) (by repeat (first | exact blk_sb _ _ _ _ hg | exact hg | apply blk_ext | apply blk_alloc | apply blk_drewN | apply blk_drew)) ha).mono ?_; rintro e w' ⟨rfl, hq⟩; obtain ⟨vh, vd, rfl⟩ := hq; first | (rw [show isW (tokAt toks at_) (⟨#[118, 111, 105, 100]⟩ : ByteArray).data.toList = _ from HV.out]) | (rw [show isW (tokAt toks at_) (⟨#[105, 110, 116]⟩ : ByteArray).data.toList = _ from HI.out]; clear tok2))
        | (go_at_call 72; refine (aAhead_any toks ps A PA c pc g B at_ fe fa _ _ (by repeat (first | exact hr | apply Rd.ext | apply Rd.alloc | apply Rd.sb | apply Rd.drewN | apply Rd.drew)) (by repeat (first | exact blk_sb _ _ _ _ hg | exact hg | apply blk_ext | apply blk_alloc | apply blk_drewN | apply blk_drew)) ha).mono ?_; rintro e w' ⟨rfl, hq⟩; obtain ⟨uh, ud, rfl⟩ := hq; rw [HA.out])
        | (go_at_call 73; refine (aParam_any toks ps A PA c pc g B at_ fe fa _ (by repeat (first | exact hr | apply Rd.ext | apply Rd.alloc | apply Rd.sb | apply Rd.drewN | apply Rd.drew)) (by repeat (first | exact blk_sb _ _ _ _ hg | exact hg | apply blk_ext | apply blk_alloc | apply blk_drewN | apply blk_drew)) ha).mono ?_; rintro e w' hq; obtain ⟨rfl, hq2⟩ := hq.2 H0.out; clear hq; obtain ⟨zh, zd, rfl⟩ := hq2; rw [HM.out])
        | (go_at_call 68; refine (aLook_zero toks ps A PA c pc g B (w64 (at_ + 1)) fe fa _ (by repeat (first | exact hr | apply Rd.ext | apply Rd.alloc | apply Rd.sb | apply Rd.drewN | apply Rd.drew)) (by repeat (first | exact blk_sb _ _ _ _ hg | exact hg | apply blk_ext | apply blk_alloc | apply blk_drewN | apply blk_drew)) (I64_w64 _)).mono ?_; rintro e w' ⟨rfl, hq⟩; obtain ⟨rh, rd, rfl⟩ := hq)
        | (go_at_call 70; refine (aBad_any toks ps A PA c pc g B (w64 (at_ + 1)) fe fa _ _ (by repeat (first | exact hr | apply Rd.ext | apply Rd.alloc | apply Rd.sb | apply Rd.drewN | apply Rd.drew)) (by repeat (first | exact blk_sb _ _ _ _ hg | exact hg | apply blk_ext | apply blk_alloc | apply blk_drewN | apply blk_drew)) (I64_w64 _)).mono ?_; rintro e w' ⟨rfl, hq⟩; obtain ⟨sh, sd, rfl⟩ := hq)
        | (go_at_call 69; refine (aIs_zero toks ps A PA c pc g B (w64 ((w64 (at_ + 1)) + 1)) fe fa _ _ (by repeat (first | exact hr | apply Rd.ext | apply Rd.alloc | apply Rd.sb | apply Rd.drewN | apply Rd.drew)) (by repeat (first | exact blk_sb _ _ _ _ hg | exact hg | apply blk_ext | apply blk_alloc | apply blk_drewN | apply blk_drew)) (I64_w64 _)).mono ?_; rintro e w' ⟨rfl, hq⟩; obtain ⟨sh, sd, rfl⟩ := hq; rw [show isW (tokAt toks (w64 ((w64 (at_ + 1)) + 1))) (⟨#[60]⟩ : ByteArray).data.toList = _ from HL.out])
        | (go_at_call 49; refine (aOwners_any toks ps A PA c pc g B (w64 ((w64 (at_ + 1)) + 1)) fe fa _ (by repeat (first | exact hr | apply Rd.ext | apply Rd.alloc | apply Rd.sb | apply Rd.drewN | apply Rd.drew)) (by repeat (first | exact blk_sb _ _ _ _ hg | exact hg | apply blk_ext | apply blk_alloc | apply blk_drewN | apply blk_drew)) (I64_w64 _)).mono ?_; rintro e w' hq; obtain ⟨A2, c2, rfl, hq2, hown⟩ := hq.1 HO.out; clear hq; obtain ⟨qh, qd, rfl⟩ := hq2; have hsl := Sl.of_own ownC_len (by decide) hown; clear hown)
        | (refine wpList_builtin_run rfl (.tmp 116) (.tmp 117) 63 63 rfl _ (run_copyO _ (xh.size + (w.heap.size + 1) + 1) _ A2 c2 (ownsL toks ps (w64 ((w64 (at_ + 1)) + 1))).1 (ownsL_len toks ps _) (by simpa [go_sem, hg] using hsl) (.int .i64 2) (.string (bs (tokAt toks (w64 (at_ + 1))).text)) (.int .i64 0) (.int .i64 (3)) (.int .i64 (m)) (by repeat (first | exact block_alloc _ _ _ (by simp [wext_size, sb_size]) | apply blk_ext | apply blk_alloc | apply blk_drewN))) ?_))
  exact bodyPost_ret (v := .tuple #[.agg #[.int .i64 2, .string (bs (tokAt toks (w64 (at_ + 1))).text), .int .i64 (ownsL toks ps (w64 ((w64 (at_ + 1)) + 1))).1.length, .int .i64 (3), .int .i64 (m), .int .i64 (nth2 (ownsL toks ps (w64 ((w64 (at_ + 1)) + 1))).1 0).1, .int .i64 (nth2 (ownsL toks ps (w64 ((w64 (at_ + 1)) + 1))).1 0).2, .int .i64 (nth2 (ownsL toks ps (w64 ((w64 (at_ + 1)) + 1))).1 1).1, .int .i64 (nth2 (ownsL toks ps (w64 ((w64 (at_ + 1)) + 1))).1 1).2, .int .i64 (nth2 (ownsL toks ps (w64 ((w64 (at_ + 1)) + 1))).1 2).1, .int .i64 (nth2 (ownsL toks ps (w64 ((w64 (at_ + 1)) + 1))).1 2).2], .bool true]) (by simp [results, Try.results42, go_sem]) rfl ⟨fun _ => ⟨rfl, by first | exact Grw.refl _ | (repeat (first | exact Grw.refl _ | apply Grw.ext | apply Grw.alloc | apply Grw.drewN | apply Grw.drew)); done⟩, fun h => absurd rfl h⟩
end
end Go.Proofs.YtnindeoemfgkeaaRRRR
