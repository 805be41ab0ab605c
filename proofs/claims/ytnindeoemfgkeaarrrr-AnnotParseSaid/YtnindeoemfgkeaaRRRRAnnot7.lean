/- Contract of annot's reader: typ: one theorem for each way through it. -/
import Derived.Test.YtnindeoemfgkeaaRRRRAnnot6
namespace Go.Proofs.YtnindeoemfgkeaaRRRR
open Go.RowKit
section
variable (toks : List Tok) (ps : List (List UInt8)) (A PA : Option Addr) (c pc g B : Nat) (at_ fe fa k : Int) (w : World)
theorem ownsF_len : ∀ (f : Nat) (a : Int) (out : List (Int × Int)), out.length ≤ 3 → (ownsF toks ps f a out).1.length ≤ 3
  | 0, _, _, _ => Nat.zero_le _
  | f + 1, a, out, h => by
    unfold ownsF
    split
    · rename_i ho
      have hne : out.length ≠ 3 := fun e => own1_three (ps := ps) (tokAt toks (w64 (a + 1))) (by rw [e] at ho; exact ho)
      have hl : (out ++ [(own1 (tokAt toks (w64 (a + 1))) ps out.length).2]).length ≤ 3 := by simp; omega
      split
      · exact ownsF_len f _ _ hl
      · split
        · exact hl
        · exact Nat.zero_le _
    · exact Nat.zero_le _
theorem ownsL_len (a : Int) : (ownsL toks ps a).1.length ≤ 3 := by
  unfold ownsL; split
  · exact ownsF_len toks ps _ _ _ (Nat.zero_le _)
  · exact Nat.zero_le _
/-- What typ leaves: R: type, place behind, error, its place. -/
def TypPost (R : Ty × Int × Int × Int) (e : Ending) (w' : World) : Prop :=
  (R.2.2.1 = 0 → e = .returned (.tuple #[.agg R.1.arr, .bool true]) ∧ Grw (sb w g 109 #[.slice A toks.length c, .int .i64 (R.2.1), .slice PA ps.length pc, .int .i64 (fe), .int .i64 (fa)]) w') ∧
  (R.2.2.1 ≠ 0 → e = .returned (.tuple #[.agg Ty.zero.arr, .bool false]) ∧ ∃ at', Grw (sb w g 109 #[.slice A toks.length c, .int .i64 (at'), .slice PA ps.length pc, .int .i64 (R.2.2.1), .int .i64 (R.2.2.2)]) w')
set_option maxRecDepth 100000 in
set_option maxHeartbeats 4000000 in
theorem aTyp_void (nm : Bool) (hr : Rd toks ps A PA B g w) (ha : I64 at_) (hv : isW (tokAt toks at_) [118, 111, 105, 100] = true) :
    Calls Try.prog 42 #[.pointer (some ⟨g, 0, none⟩), .bool nm] (sb w g 109 #[.slice A toks.length c, .int .i64 (at_), .slice PA ps.length pc, .int .i64 (fe), .int .i64 (fa)]) (TypPost toks ps A PA c pc g fe fa w (Ty.zero, w64 (at_ + 1), 0, 0)) := by
  have hg := hr.hg
  obtain ⟨kv, hk⟩ : ∃ kv, knownO (tokAt toks at_) = kv := ⟨_, rfl⟩
  have HK := Lib.hid hk
  have HV := Lib.hid hv
  have HI := Lib.hid hv
  have HA := Lib.hid hv
  clear hk hv
  have tok1 : True := trivial
  have tok2 : True := trivial
  go_enter Try.func42, Try.ntmps42
  go_wp2_with (first
        | (go_at_call 68; have _t := tok1; refine (aLook_zero toks ps A PA c pc g B at_ fe fa _ (by repeat (first | exact hr | apply Rd.ext | apply Rd.alloc | apply Rd.sb | apply Rd.drewN | apply Rd.drew)) (by repeat (first | exact blk_sb _ _ _ _ hg | exact hg | apply blk_ext | apply blk_alloc | apply blk_drewN | apply blk_drew)) ha).mono ?_; clear tok1; rintro e w' ⟨rfl, hq⟩; obtain ⟨xh, xd, rfl⟩ := hq)
        | (go_at_call 71; refine (aKnown_any _ _ _ _).mono ?_; rintro e w' ⟨rfl, hq⟩; obtain ⟨yh, yd, rfl⟩ := hq; rw [show knownO ⟨(tokAt toks at_).kind, (tokAt toks at_).text, (tokAt toks at_).pos⟩ = _ from HK.out])
        | (go_at_call 69; have _t := tok2; refine (aIs_zero toks ps A PA c pc g B at_ fe fa _ _ (by repeat (first | exact hr | apply Rd.ext | apply Rd.alloc | apply Rd.sb | apply Rd.drewN | apply Rd.drew)) (by repeat (first | exact blk_sb _ _ _ _ hg | exact hg | apply blk_ext | apply blk_alloc | apply blk_drewN | apply blk_drew)) ha).mono ?_; rintro e w' ⟨rfl, hq⟩; obtain ⟨vh, vd, rfl⟩ := hq; first | (rw [show isW (tokAt toks at_) (⟨#[118, 111, 105, 100]⟩ : ByteArray).data.toList = _ from HV.out]) | (rw [show isW (tokAt toks at_) (⟨#[105, 110, 116]⟩ : ByteArray).data.toList = _ from HI.out]; clear tok2))
        | (go_at_call 72; refine (aAhead_any toks ps A PA c pc g B at_ fe fa _ _ (by repeat (first | exact hr | apply Rd.ext | apply Rd.alloc | apply Rd.sb | apply Rd.drewN | apply Rd.drew)) (by repeat (first | exact blk_sb _ _ _ _ hg | exact hg | apply blk_ext | apply blk_alloc | apply blk_drewN | apply blk_drew)) ha).mono ?_; rintro e w' ⟨rfl, hq⟩; obtain ⟨uh, ud, rfl⟩ := hq; rw [HA.out])
        | (go_at_call 73; refine (aParam_any toks ps A PA c pc g B at_ fe fa _ (by repeat (first | exact hr | apply Rd.ext | apply Rd.alloc | apply Rd.sb | apply Rd.drewN | apply Rd.drew)) (by repeat (first | exact blk_sb _ _ _ _ hg | exact hg | apply blk_ext | apply blk_alloc | apply blk_drewN | apply blk_drew)) ha).mono ?_; rintro e w' hq; obtain ⟨rfl, hq2⟩ := hq.1 HK.out; clear hq; obtain ⟨zh, zd, rfl⟩ := hq2))
  exact bodyPost_ret (v := .tuple #[.agg #[.int .i64 0, .string ⟨#[]⟩, .int .i64 0, .int .i64 0, .int .i64 0, .int .i64 0, .int .i64 0, .int .i64 0, .int .i64 0, .int .i64 0, .int .i64 0], .bool true]) (by simp [results, Try.results42, go_sem]) rfl ⟨fun _ => ⟨rfl, by first | exact Grw.refl _ | (repeat (first | exact Grw.refl _ | apply Grw.ext | apply Grw.alloc | apply Grw.drewN | apply Grw.drew)); done⟩, fun h => absurd rfl h⟩
set_option maxRecDepth 100000 in
set_option maxHeartbeats 4000000 in
theorem aTyp_int (nm : Bool) (hr : Rd toks ps A PA B g w) (ha : I64 at_) (hv : isW (tokAt toks at_) [118, 111, 105, 100] = false) (hi : isW (tokAt toks at_) [105, 110, 116] = true) :
    Calls Try.prog 42 #[.pointer (some ⟨g, 0, none⟩), .bool nm] (sb w g 109 #[.slice A toks.length c, .int .i64 (at_), .slice PA ps.length pc, .int .i64 (fe), .int .i64 (fa)]) (TypPost toks ps A PA c pc g fe fa w (⟨1, [], 0, (0, 0), (0, 0), (0, 0), (0, 0)⟩, w64 (at_ + 1), 0, 0)) := by
  have hg := hr.hg
  obtain ⟨kv, hk⟩ : ∃ kv, knownO (tokAt toks at_) = kv := ⟨_, rfl⟩
  have HK := Lib.hid hk
  have HV := Lib.hid hv
  have HI := Lib.hid hi
  have HA := Lib.hid hv
  clear hk hv hi
  have tok1 : True := trivial
  have tok2 : True := trivial
  go_enter Try.func42, Try.ntmps42
  go_wp2_with (first
        | (go_at_call 68; have _t := tok1; refine (aLook_zero toks ps A PA c pc g B at_ fe fa _ (by repeat (first | exact hr | apply Rd.ext | apply Rd.alloc | apply Rd.sb | apply Rd.drewN | apply Rd.drew)) (by repeat (first | exact blk_sb _ _ _ _ hg | exact hg | apply blk_ext | apply blk_alloc | apply blk_drewN | apply blk_drew)) ha).mono ?_; clear tok1; rintro e w' ⟨rfl, hq⟩; obtain ⟨xh, xd, rfl⟩ := hq)
        | (go_at_call 71; refine (aKnown_any _ _ _ _).mono ?_; rintro e w' ⟨rfl, hq⟩; obtain ⟨yh, yd, rfl⟩ := hq; rw [show knownO ⟨(tokAt toks at_).kind, (tokAt toks at_).text, (tokAt toks at_).pos⟩ = _ from HK.out])
        | (go_at_call 69; have _t := tok2; refine (aIs_zero toks ps A PA c pc g B at_ fe fa _ _ (by repeat (first | exact hr | apply Rd.ext | apply Rd.alloc | apply Rd.sb | apply Rd.drewN | apply Rd.drew)) (by repeat (first | exact blk_sb _ _ _ _ hg | exact hg | apply blk_ext | apply blk_alloc | apply blk_drewN | apply blk_drew)) ha).mono ?_; rintro e w' ⟨rfl, hq⟩; obtain ⟨vh, vd, rfl⟩ := hq; first | (rw [show isW (tokAt toks at_) (⟨#[118, 111, 105, 100]⟩ : ByteArray).data.toList = _ from HV.out]) | (rw [show isW (tokAt toks at_) (⟨#[105, 110, 116]⟩ : ByteArray).data.toList = _ from HI.out]; clear tok2))
        | (go_at_call 72; refine (aAhead_any toks ps A PA c pc g B at_ fe fa _ _ (by repeat (first | exact hr | apply Rd.ext | apply Rd.alloc | apply Rd.sb | apply Rd.drewN | apply Rd.drew)) (by repeat (first | exact blk_sb _ _ _ _ hg | exact hg | apply blk_ext | apply blk_alloc | apply blk_drewN | apply blk_drew)) ha).mono ?_; rintro e w' ⟨rfl, hq⟩; obtain ⟨uh, ud, rfl⟩ := hq; rw [HA.out])
        | (go_at_call 73; refine (aParam_any toks ps A PA c pc g B at_ fe fa _ (by repeat (first | exact hr | apply Rd.ext | apply Rd.alloc | apply Rd.sb | apply Rd.drewN | apply Rd.drew)) (by repeat (first | exact blk_sb _ _ _ _ hg | exact hg | apply blk_ext | apply blk_alloc | apply blk_drewN | apply blk_drew)) ha).mono ?_; rintro e w' hq; obtain ⟨rfl, hq2⟩ := hq.1 HK.out; clear hq; obtain ⟨zh, zd, rfl⟩ := hq2))
  exact bodyPost_ret (v := .tuple #[.agg #[.int .i64 1, .string ⟨#[]⟩, .int .i64 0, .int .i64 0, .int .i64 0, .int .i64 0, .int .i64 0, .int .i64 0, .int .i64 0, .int .i64 0, .int .i64 0], .bool true]) (by simp [results, Try.results42, go_sem]) rfl ⟨fun _ => ⟨rfl, by first | exact Grw.refl _ | (repeat (first | exact Grw.refl _ | apply Grw.ext | apply Grw.alloc | apply Grw.drewN | apply Grw.drew)); done⟩, fun h => absurd rfl h⟩
set_option maxRecDepth 100000 in
set_option maxHeartbeats 4000000 in
theorem aTyp_perr (nm : Bool) (hr : Rd toks ps A PA B g w) (ha : I64 at_) (hv : isW (tokAt toks at_) [118, 111, 105, 100] = false) (hi : isW (tokAt toks at_) [105, 110, 116] = false) (hk : knownO (tokAt toks at_) = 0) (h1 : (tokAt toks at_).kind = 1) (hah : aheadL toks at_ nm = true) (h0 : idxIn (tokAt toks at_).text ps 0 = 0) :
    Calls Try.prog 42 #[.pointer (some ⟨g, 0, none⟩), .bool nm] (sb w g 109 #[.slice A toks.length c, .int .i64 (at_), .slice PA ps.length pc, .int .i64 (fe), .int .i64 (fa)]) (TypPost toks ps A PA c pc g fe fa w (Ty.zero, 0, 4, (tokAt toks at_).pos)) := by
  have hg := hr.hg
  have b1 : ((tokAt toks at_).kind == 1) = true := by simp [h1]
  have HK := Lib.hid hk
  have HV := Lib.hid hv
  have HI := Lib.hid hi
  have HA := Lib.hid hah
  have H0 := Lib.hid h0
  clear hk hv hi hah h0 h1
  have tok1 : True := trivial
  have tok2 : True := trivial
  go_enter Try.func42, Try.ntmps42
  go_wp2_with (first
        | (go_at_call 68; have _t := tok1; refine (aLook_zero toks ps A PA c pc g B at_ fe fa _ (by repeat (first | exact hr | apply Rd.ext | apply Rd.alloc | apply Rd.sb | apply Rd.drewN | apply Rd.drew)) (by repeat (first | exact blk_sb _ _ _ _ hg | exact hg | apply blk_ext | apply blk_alloc | apply blk_drewN | apply blk_drew)) ha).mono ?_; clear tok1; rintro e w' ⟨rfl, hq⟩; obtain ⟨xh, xd, rfl⟩ := hq)
        | (go_at_call 71; refine (aKnown_any _ _ _ _).mono ?_; rintro e w' ⟨rfl, hq⟩; obtain ⟨yh, yd, rfl⟩ := hq; rw [show knownO ⟨(tokAt toks at_).kind, (tokAt toks at_).text, (tokAt toks at_).pos⟩ = _ from HK.out])
        | (go_at_call 69; have _t := tok2; refine (aIs_zero toks ps A PA c pc g B at_ fe fa _ _ (by repeat (first | exact hr | apply Rd.ext | apply Rd.alloc | apply Rd.sb | apply Rd.drewN | apply Rd.drew)) (by repeat (first | exact blk_sb _ _ _ _ hg | exact hg | apply blk_ext | apply blk_alloc | apply blk_drewN | apply blk_drew)) ha).mono ?_; rintro e w' ⟨rfl, hq⟩; obtain ⟨vh, vd, rfl⟩ := hq; first | (rw [show isW (tokAt toks at_) (⟨#[118, 111, 105, 100]⟩ : ByteArray).data.toList = _ from HV.out]) | (rw [show isW (tokAt toks at_) (⟨#[105, 110, 116]⟩ : ByteArray).data.toList = _ from HI.out]; clear tok2))
        | (go_at_call 72; refine (aAhead_any toks ps A PA c pc g B at_ fe fa _ _ (by repeat (first | exact hr | apply Rd.ext | apply Rd.alloc | apply Rd.sb | apply Rd.drewN | apply Rd.drew)) (by repeat (first | exact blk_sb _ _ _ _ hg | exact hg | apply blk_ext | apply blk_alloc | apply blk_drewN | apply blk_drew)) ha).mono ?_; rintro e w' ⟨rfl, hq⟩; obtain ⟨uh, ud, rfl⟩ := hq; rw [HA.out])
        | (go_at_call 73; refine (aParam_any toks ps A PA c pc g B at_ fe fa _ (by repeat (first | exact hr | apply Rd.ext | apply Rd.alloc | apply Rd.sb | apply Rd.drewN | apply Rd.drew)) (by repeat (first | exact blk_sb _ _ _ _ hg | exact hg | apply blk_ext | apply blk_alloc | apply blk_drewN | apply blk_drew)) ha).mono ?_; rintro e w' hq; obtain ⟨rfl, hq2⟩ := hq.1 H0.out; clear hq; obtain ⟨zh, zd, rfl⟩ := hq2))
  exact bodyPost_ret (v := .tuple #[.agg #[.int .i64 0, .string ⟨#[]⟩, .int .i64 0, .int .i64 0, .int .i64 0, .int .i64 0, .int .i64 0, .int .i64 0, .int .i64 0, .int .i64 0, .int .i64 0], .bool false]) (by simp [results, Try.results42, go_sem]) rfl ⟨fun h => absurd h (by simp), fun _ => ⟨rfl, at_, by first | exact Grw.refl _ | (repeat (first | exact Grw.refl _ | apply Grw.ext | apply Grw.alloc | apply Grw.drewN | apply Grw.drew)); done⟩⟩
set_option maxRecDepth 100000 in
set_option maxHeartbeats 4000000 in
theorem aTyp_kwa (nm : Bool) (hr : Rd toks ps A PA B g w) (ha : I64 at_) (hv : isW (tokAt toks at_) [118, 111, 105, 100] = false) (hi : isW (tokAt toks at_) [105, 110, 116] = false) (hk : knownO (tokAt toks at_) ≠ 0) (hc : (tokAt toks (w64 (at_ + 1))).kind ≠ 1) :
    Calls Try.prog 42 #[.pointer (some ⟨g, 0, none⟩), .bool nm] (sb w g 109 #[.slice A toks.length c, .int .i64 (at_), .slice PA ps.length pc, .int .i64 (fe), .int .i64 (fa)]) (TypPost toks ps A PA c pc g fe fa w (parseB toks ps (w64 (at_ + 1)) (knownO (tokAt toks at_), 0))) := by
  have hg := hr.hg
  obtain ⟨kv, hkv⟩ : ∃ kv, knownO (tokAt toks at_) = kv := ⟨_, rfl⟩
  have k0 : (kv != 0) = true := by rw [← hkv]; simpa using hk
  rw [hkv]
  have HK := Lib.hid hkv
  have HA := Lib.hid hv
  have HV := Lib.hid hv
  have HI := Lib.hid hi
  clear hk hv hi hkv
  have HR := Lib.hid (show parseB toks ps (w64 (at_ + 1)) (kv, 0) = (Ty.zero, 0, 3, (tokAt toks (w64 (at_ + 1))).pos) by rw [parseB, if_neg hc])
  rw [HR.out]
  have bc : ((tokAt toks (w64 (at_ + 1))).kind != 1) = true := by simpa using hc
  clear hc
  have tok1 : True := trivial
  have tok2 : True := trivial
  go_enter Try.func42, Try.ntmps42
  go_wp2_with (first
        | (go_at_call 68; have _t := tok1; refine (aLook_zero toks ps A PA c pc g B at_ fe fa _ (by repeat (first | exact hr | apply Rd.ext | apply Rd.alloc | apply Rd.sb | apply Rd.drewN | apply Rd.drew)) (by repeat (first | exact blk_sb _ _ _ _ hg | exact hg | apply blk_ext | apply blk_alloc | apply blk_drewN | apply blk_drew)) ha).mono ?_; clear tok1; rintro e w' ⟨rfl, hq⟩; obtain ⟨xh, xd, rfl⟩ := hq)
        | (go_at_call 71; refine (aKnown_any _ _ _ _).mono ?_; rintro e w' ⟨rfl, hq⟩; obtain ⟨yh, yd, rfl⟩ := hq; rw [show knownO ⟨(tokAt toks at_).kind, (tokAt toks at_).text, (tokAt toks at_).pos⟩ = _ from HK.out])
        | (go_at_call 69; have _t := tok2; refine (aIs_zero toks ps A PA c pc g B at_ fe fa _ _ (by repeat (first | exact hr | apply Rd.ext | apply Rd.alloc | apply Rd.sb | apply Rd.drewN | apply Rd.drew)) (by repeat (first | exact blk_sb _ _ _ _ hg | exact hg | apply blk_ext | apply blk_alloc | apply blk_drewN | apply blk_drew)) ha).mono ?_; rintro e w' ⟨rfl, hq⟩; obtain ⟨vh, vd, rfl⟩ := hq; first | (rw [show isW (tokAt toks at_) (⟨#[118, 111, 105, 100]⟩ : ByteArray).data.toList = _ from HV.out]) | (rw [show isW (tokAt toks at_) (⟨#[105, 110, 116]⟩ : ByteArray).data.toList = _ from HI.out]; clear tok2))
        | (go_at_call 72; refine (aAhead_any toks ps A PA c pc g B at_ fe fa _ _ (by repeat (first | exact hr | apply Rd.ext | apply Rd.alloc | apply Rd.sb | apply Rd.drewN | apply Rd.drew)) (by repeat (first | exact blk_sb _ _ _ _ hg | exact hg | apply blk_ext | apply blk_alloc | apply blk_drewN | apply blk_drew)) ha).mono ?_; rintro e w' ⟨rfl, hq⟩; obtain ⟨uh, ud, rfl⟩ := hq; rw [HA.out])
        | (go_at_call 73; refine (aParam_any toks ps A PA c pc g B at_ fe fa _ (by repeat (first | exact hr | apply Rd.ext | apply Rd.alloc | apply Rd.sb | apply Rd.drewN | apply Rd.drew)) (by repeat (first | exact blk_sb _ _ _ _ hg | exact hg | apply blk_ext | apply blk_alloc | apply blk_drewN | apply blk_drew)) ha).mono ?_; rintro e w' hq; obtain ⟨rfl, hq2⟩ := hq.1 HK.out; clear hq; obtain ⟨zh, zd, rfl⟩ := hq2)
        | (go_at_call 68; refine (aLook_zero toks ps A PA c pc g B (w64 (at_ + 1)) fe fa _ (by repeat (first | exact hr | apply Rd.ext | apply Rd.alloc | apply Rd.sb | apply Rd.drewN | apply Rd.drew)) (by repeat (first | exact blk_sb _ _ _ _ hg | exact hg | apply blk_ext | apply blk_alloc | apply blk_drewN | apply blk_drew)) (I64_w64 _)).mono ?_; rintro e w' ⟨rfl, hq⟩; obtain ⟨rh, rd, rfl⟩ := hq)
        | (go_at_call 70; refine (aBad_any toks ps A PA c pc g B (w64 (at_ + 1)) fe fa _ _ (by repeat (first | exact hr | apply Rd.ext | apply Rd.alloc | apply Rd.sb | apply Rd.drewN | apply Rd.drew)) (by repeat (first | exact blk_sb _ _ _ _ hg | exact hg | apply blk_ext | apply blk_alloc | apply blk_drewN | apply blk_drew)) (I64_w64 _)).mono ?_; rintro e w' ⟨rfl, hq⟩; obtain ⟨sh, sd, rfl⟩ := hq)
        | (go_at_call 69; refine (aIs_zero toks ps A PA c pc g B (w64 ((w64 (at_ + 1)) + 1)) fe fa _ _ (by repeat (first | exact hr | apply Rd.ext | apply Rd.alloc | apply Rd.sb | apply Rd.drewN | apply Rd.drew)) (by repeat (first | exact blk_sb _ _ _ _ hg | exact hg | apply blk_ext | apply blk_alloc | apply blk_drewN | apply blk_drew)) (I64_w64 _)).mono ?_; rintro e w' ⟨rfl, hq⟩; obtain ⟨sh, sd, rfl⟩ := hq; rw [show isW (tokAt toks (w64 ((w64 (at_ + 1)) + 1))) (⟨#[60]⟩ : ByteArray).data.toList = _ from HL.out])
        | (go_at_call 49; refine (aOwners_any toks ps A PA c pc g B (w64 ((w64 (at_ + 1)) + 1)) fe fa _ (by repeat (first | exact hr | apply Rd.ext | apply Rd.alloc | apply Rd.sb | apply Rd.drewN | apply Rd.drew)) (by repeat (first | exact blk_sb _ _ _ _ hg | exact hg | apply blk_ext | apply blk_alloc | apply blk_drewN | apply blk_drew)) (I64_w64 _)).mono ?_; rintro e w' hq; fail))
  exact bodyPost_ret (v := .tuple #[.agg #[.int .i64 0, .string ⟨#[]⟩, .int .i64 0, .int .i64 0, .int .i64 0, .int .i64 0, .int .i64 0, .int .i64 0, .int .i64 0, .int .i64 0, .int .i64 0], .bool false]) (by simp [results, Try.results42, go_sem]) rfl ⟨fun h => absurd h (by simp), fun _ => ⟨rfl, (w64 (at_ + 1)), by first | exact Grw.refl _ | (repeat (first | exact Grw.refl _ | apply Grw.ext | apply Grw.alloc | apply Grw.drewN | apply Grw.drew)); done⟩⟩
end
end Go.Proofs.YtnindeoemfgkeaaRRRR
