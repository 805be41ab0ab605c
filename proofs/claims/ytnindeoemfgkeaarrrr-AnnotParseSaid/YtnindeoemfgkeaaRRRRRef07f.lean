/- Contract of demesneref07.Parse: which type stands at a place, or what is wrong. -/
import Derived.Test.YtnindeoemfgkeaaRRRRRef07e
import Derived.Test.YtnindeoemfgkeaaRRRRAnnot7
import Derived.Deep.DeepCutAuto
import Derived.Deep.Cut
import Derived.LoopN
namespace Go.Proofs.YtnindeoemfgkeaaRRRR
open Go.RowKit
@[go_sem] theorem got7_c0 (L : Value) (T : Ty) (nx e a : Int) : (got7 L T nx e a)[0]? = some L := rfl
@[go_sem] theorem got7_c25 (L : Value) (T : Ty) (nx e a : Int) : (got7 L T nx e a)[25]? = some (.int .i64 nx) := rfl
@[go_sem] theorem got7_c26 (L : Value) (T : Ty) (nx e a : Int) : (got7 L T nx e a)[26]? = some (.int .i64 e) := rfl
@[go_sem] theorem buI_run (n : Int) (w : World) : (bu7 #[(1, .agg #[.int .i64 1, .string ⟨#[]⟩, .int .i64 0, .int .i64 0, .int .i64 0, .int .i64 0, .int .i64 0, .int .i64 0, .int .i64 0, .int .i64 0, .int .i64 0]), (3, .int .i64 n)]).run Try.prog w = .ok (.agg (got7 (.slice none 0 0) ⟨1, [], 0, (0, 0), (0, 0), (0, 0), (0, 0)⟩ n 0 0)) w := run_build w _ _ _ (by kernel_rfl)
@[go_sem] theorem fld_Owner0 (x0 x1 : Value) (w : World) : (Instr.field 57 (.agg #[x0, x1]) 0).run Try.prog w = .ok x0 w := by kernel_rfl
section
variable (toks : List Tok) (ps : List (List UInt8)) (A PA : Option Addr) (c pc B : Nat) (at_ k : Int) (w : World)
theorem r07Owners_any (hl : SlB Tok.cells 3 w B A toks) (hn : toks.length ≤ 1000000) (hp : SlB strC 1 w B PA ps) (hm : ps.length ≤ 1000000) (ha : I64 at_) (hok : ∀ i, (tokAt toks i).kind = 4 → ownW (tokAt toks i).text = 0) :
    Calls Try.prog 23 #[.slice A toks.length c, .int .i64 at_, .slice PA ps.length pc] w (Owns7 w (ownsL toks ps at_)) := by
  cases h : isW (tokAt toks at_) [60]
  · exact r07Owners_lt toks ps A PA c pc B at_ w hl hn h
  · exact r07Owners_ge toks ps A PA c pc B at_ w hl hn hp hm ha hok h
theorem ownsF_next : ∀ (f : Nat) (a : Int) (out : List (Int × Int)), (ownsF toks ps f a out).2.2.1 ≠ 0 → (ownsF toks ps f a out).2.1 = 0
  | 0, _, _, _ => rfl
  | f + 1, a, out, h => by
    unfold ownsF at h ⊢
    split
    · rename_i ho
      rw [if_pos ho] at h
      split
      · rename_i h2; rw [if_pos h2] at h; exact ownsF_next f _ _ h
      · rename_i h2
        rw [if_neg h2] at h
        split
        · rename_i h3; rw [if_pos h3] at h; exact absurd rfl h
        · rfl
    · rfl
theorem ownsL_next (h : (ownsL toks ps at_).2.2.1 ≠ 0) : (ownsL toks ps at_).2.1 = 0 := by
  unfold ownsL at h ⊢
  split
  · rename_i h2; rw [if_pos h2] at h; exact ownsF_next toks ps _ _ _ h
  · rfl
theorem own_new {w : World} {h : Array Obj} {d c' : Nat} {A' : Option Addr} {L : List (Int × Int)} (hown : (wext w h d).ownsRow w.heap.size 57 2 (.slice A' L.length c') L.length (L.flatMap ownC)) (hne : L ≠ []) :
    ∃ g, A' = some ⟨g, 0, none⟩ ∧ w.heap.size ≤ g ∧ g < h.size + w.heap.size ∧ ∀ (w2 : World) (d2 : Nat), w2.heap.size = w.heap.size → ∀ i x, L[i]? = some x → ∀ j u, (ownC x)[j]? = some u → (wext w2 h d2).cell? ⟨g, i * 2 + j, none⟩ = some u := by
  have hs := Sl.of_own ownC_len (by decide) hown
  obtain ⟨_, h2⟩ := hown
  rcases h2 with ⟨_, hn⟩ | ⟨g, cap, cur, hv, hg, hh, hn, hm, hcs, htk⟩
  · exact absurd (List.eq_nil_of_length_eq_zero hn) hne
  · injection hv with hA hc hcap
    subst hA
    rcases hs with hs | ⟨b, o, hb, hbl, hcell⟩
    · exact absurd hs hne
    · injection hb with hb; injection hb with hb1 hb2
      subst hb1; subst hb2
      rw [wext_size] at hbl
      refine ⟨g, rfl, hg, hbl, fun w2 d2 hsz i x hx j u hu => ?_⟩
      have := hcell i x hx j u hu
      rw [Nat.zero_add] at this
      rw [← this]
      refine World.cell?_of_block (a := ⟨g, _, none⟩) ?_
      show (w2.heap ++ h)[g]? = (w.heap ++ h)[g]?
      rw [Array.getElem?_append_right (by omega), Array.getElem?_append_right (by omega), hsz]
theorem r07Owners_good (L : List (Int × Int)) (nx oa : Int) (hl : SlB Tok.cells 3 w B A toks) (hn : toks.length ≤ 1000000) (hp : SlB strC 1 w B PA ps) (hm : ps.length ≤ 1000000) (ha : I64 at_) (hok : ∀ i, (tokAt toks i).kind = 4 → ownW (tokAt toks i).text = 0)
    (hL : ownsL toks ps at_ = (L, nx, 0, oa)) (hne : L ≠ []) :
    Calls Try.prog 23 #[.slice A toks.length c, .int .i64 at_, .slice PA ps.length pc] w fun e w' => ∃ g h d c', e = .returned (.agg (got7 (.slice (some ⟨g, 0, none⟩) L.length c') Ty.zero nx 0 oa)) ∧ w' = wext w h d ∧
      w.heap.size ≤ g ∧ g < h.size + w.heap.size ∧ ∀ (w2 : World) (d2 : Nat), w2.heap.size = w.heap.size → ∀ i x, L[i]? = some x → ∀ j u, (ownC x)[j]? = some u → (wext w2 h d2).cell? ⟨g, i * 2 + j, none⟩ = some u :=
  (r07Owners_any toks ps A PA c pc B at_ w hl hn hp hm ha hok).mono fun e w' h => by
    unfold Owns7 at h
    rw [hL] at h
    obtain ⟨A', c', rfl, ⟨h, d, rfl⟩, hown⟩ := h
    obtain ⟨g, rfl, h1, h2, h3⟩ := own_new hown hne
    exact ⟨g, h, d, c', rfl, rfl, h1, h2, h3⟩
/-- What Parse leaves. -/
def Pars7 (R : Ty × Int × Int × Int) (e : Ending) (w' : World) : Prop :=
  ∃ A' n c', e = .returned (.agg (got7 (.slice A' n c') R.1 R.2.1 R.2.2.1 R.2.2.2)) ∧ Grw w w'
set_option maxRecDepth 100000 in
set_option maxHeartbeats 4000000 in
theorem r07Parse_void (nm : Bool) (hl : SlB Tok.cells 3 w B A toks) (hn : toks.length ≤ 1000000) (hv : isW (tokAt toks at_) [118, 111, 105, 100] = true) :
    Calls Try.prog 21 #[.slice A toks.length c, .int .i64 at_, .slice PA ps.length pc, .bool nm] w (Pars7 w (parseL toks ps at_ nm)) := by
  have HR := Lib.hid (show parseL toks ps at_ nm = (Ty.zero, w64 (at_ + 1), 0, 0) by rw [parseL, hv]; rfl)
  have HV := Lib.hid hv
  have HI := Lib.hid hv
  clear hv
  go_enter Try.func21, Try.ntmps21
  go_wp2_with (first
    | (go_at_call 43; refine (r06Tok_any toks A c B _ _ (by repeat (first | exact hl | exact hp | apply SlB.alloc | apply SlB.ext)) hn).mono ?_; rintro e w' ⟨rfl, hq⟩; obtain ⟨xh, xd, rfl⟩ := hq)
    | (go_at_call 45; refine (r07word_any _ _ _ _ hokt).mono ?_; rintro e w' ⟨rfl, hq⟩; obtain ⟨zh, zd, rfl⟩ := hq; rw [show knownO ⟨(tokAt toks at_).kind, (tokAt toks at_).text, (tokAt toks at_).pos⟩ = _ from HKV.out])
    | (go_at_call 48; refine (r07wrong_any toks A c B _ _ _ (by repeat (first | exact hl | exact hp | apply SlB.alloc | apply SlB.ext)) hn).mono ?_; rintro e w' ⟨rfl, hq⟩; obtain ⟨vh, vd, rfl⟩ := hq)
    | (go_at_call 44; refine (r03Is_any _ _ _ _ _).mono ?_; rintro e w' ⟨rfl, hq⟩; obtain ⟨sh, sd, rfl⟩ := hq; first | rw [show isW ⟨(tokAt toks at_).kind, (tokAt toks at_).text, (tokAt toks at_).pos⟩ (⟨#[118, 111, 105, 100]⟩ : ByteArray).data.toList = _ from HV.out] | rw [show isW ⟨(tokAt toks at_).kind, (tokAt toks at_).text, (tokAt toks at_).pos⟩ (⟨#[105, 110, 116]⟩ : ByteArray).data.toList = _ from HI.out]))
  refine bodyPost_ret (v := .agg (got7 (.slice none 0 0) Ty.zero (w64 (at_ + 1)) 0 0)) ?_ rfl (by rw [HR.out]; exact ⟨none, 0, 0, rfl, by first | exact Grw.refl _ | (repeat (first | exact Grw.refl _ | apply Grw.ext | apply Grw.alloc | apply Grw.drewN | apply Grw.drew)); done⟩)
  rw [results7 Try.results21 _ _ _ rfl (by simp [go_sem])]
  simp [go_sem]
set_option maxRecDepth 100000 in
set_option maxHeartbeats 4000000 in
theorem r07Parse_int (nm : Bool) (hl : SlB Tok.cells 3 w B A toks) (hn : toks.length ≤ 1000000) (hv : isW (tokAt toks at_) [118, 111, 105, 100] = false) (hi : isW (tokAt toks at_) [105, 110, 116] = true) :
    Calls Try.prog 21 #[.slice A toks.length c, .int .i64 at_, .slice PA ps.length pc, .bool nm] w (Pars7 w (parseL toks ps at_ nm)) := by
  have HR := Lib.hid (show parseL toks ps at_ nm = (⟨1, [], 0, (0, 0), (0, 0), (0, 0), (0, 0)⟩, w64 (at_ + 1), 0, 0) by rw [parseL, hv, hi]; rfl)
  have HV := Lib.hid hv
  have HI := Lib.hid hi
  clear hv hi
  go_enter Try.func21, Try.ntmps21
  go_wp2_with (first
    | (go_at_call 43; refine (r06Tok_any toks A c B _ _ (by repeat (first | exact hl | exact hp | apply SlB.alloc | apply SlB.ext)) hn).mono ?_; rintro e w' ⟨rfl, hq⟩; obtain ⟨xh, xd, rfl⟩ := hq)
    | (go_at_call 45; refine (r07word_any _ _ _ _ hokt).mono ?_; rintro e w' ⟨rfl, hq⟩; obtain ⟨zh, zd, rfl⟩ := hq; rw [show knownO ⟨(tokAt toks at_).kind, (tokAt toks at_).text, (tokAt toks at_).pos⟩ = _ from HKV.out])
    | (go_at_call 48; refine (r07wrong_any toks A c B _ _ _ (by repeat (first | exact hl | exact hp | apply SlB.alloc | apply SlB.ext)) hn).mono ?_; rintro e w' ⟨rfl, hq⟩; obtain ⟨vh, vd, rfl⟩ := hq)
    | (go_at_call 44; refine (r03Is_any _ _ _ _ _).mono ?_; rintro e w' ⟨rfl, hq⟩; obtain ⟨sh, sd, rfl⟩ := hq; first | rw [show isW ⟨(tokAt toks at_).kind, (tokAt toks at_).text, (tokAt toks at_).pos⟩ (⟨#[118, 111, 105, 100]⟩ : ByteArray).data.toList = _ from HV.out] | rw [show isW ⟨(tokAt toks at_).kind, (tokAt toks at_).text, (tokAt toks at_).pos⟩ (⟨#[105, 110, 116]⟩ : ByteArray).data.toList = _ from HI.out]))
  refine bodyPost_ret (v := .agg (got7 (.slice none 0 0) ⟨1, [], 0, (0, 0), (0, 0), (0, 0), (0, 0)⟩ (w64 (at_ + 1)) 0 0)) ?_ rfl (by rw [HR.out]; exact ⟨none, 0, 0, rfl, by first | exact Grw.refl _ | (repeat (first | exact Grw.refl _ | apply Grw.ext | apply Grw.alloc | apply Grw.drewN | apply Grw.drew)); done⟩)
  rw [results7 Try.results21 _ _ _ rfl (by simp [go_sem])]
  simp [go_sem]
set_option maxRecDepth 100000 in
set_option maxHeartbeats 8000000 in
theorem r07Parse_obj (nm : Bool) (hl : SlB Tok.cells 3 w B A toks) (hn : toks.length ≤ 1000000) (hp : SlB strC 1 w B PA ps) (hm : ps.length ≤ 1000000) (ha : I64 at_) (hok : ∀ i, (tokAt toks i).kind = 4 → ownW (tokAt toks i).text = 0)
    (hv : isW (tokAt toks at_) [118, 111, 105, 100] = false) (hi : isW (tokAt toks at_) [105, 110, 116] = false) :
    Calls Try.prog 21 #[.slice A toks.length c, .int .i64 at_, .slice PA ps.length pc, .bool nm] w (Pars7 w (parseL toks ps at_ nm)) := by
  have hokt := hok at_
  have HK := Lib.hid hok
  obtain ⟨kv, hkv⟩ : ∃ kv, knownO (tokAt toks at_) = kv := ⟨_, rfl⟩
  have HP : Hid (parseL toks ps at_ nm = if kv ≠ 0 then parseB toks ps (w64 (at_ + 1)) (kv, 0)
    else if (tokAt toks at_).kind = 1 ∧ aheadL toks at_ nm = true then
      if idxIn (tokAt toks at_).text ps 0 = 0 then (Ty.zero, 0, 4, (tokAt toks at_).pos)
      else parseB toks ps (w64 (at_ + 1)) (3, idxIn (tokAt toks at_).text ps 0)
    else parseB toks ps at_ (7, 0)) := Lib.hid (by rw [parseL, hv, hi, hkv]; rfl)
  have HV := Lib.hid hv
  have HI := Lib.hid hi
  have HKV := Lib.hid hkv
  clear hv hi hkv hok
  go_enter Try.func21, Try.ntmps21
  go_upto_if 35 with (first
    | (go_at_call 43; refine (r06Tok_any toks A c B _ _ (by repeat (first | exact hl | exact hp | apply SlB.alloc | apply SlB.ext)) hn).mono ?_; rintro e w' ⟨rfl, hq⟩; obtain ⟨xh, xd, rfl⟩ := hq)
    | (go_at_call 45; refine (r07word_any _ _ _ _ hokt).mono ?_; rintro e w' ⟨rfl, hq⟩; obtain ⟨zh, zd, rfl⟩ := hq; rw [show knownO ⟨(tokAt toks at_).kind, (tokAt toks at_).text, (tokAt toks at_).pos⟩ = _ from HKV.out])
    | (go_at_call 48; refine (r07wrong_any toks A c B _ _ _ (by repeat (first | exact hl | exact hp | apply SlB.alloc | apply SlB.ext)) hn).mono ?_; rintro e w' ⟨rfl, hq⟩; obtain ⟨vh, vd, rfl⟩ := hq)
    | (go_at_call 44; refine (r03Is_any _ _ _ _ _).mono ?_; rintro e w' ⟨rfl, hq⟩; obtain ⟨sh, sd, rfl⟩ := hq; first | rw [show isW ⟨(tokAt toks at_).kind, (tokAt toks at_).text, (tokAt toks at_).pos⟩ (⟨#[118, 111, 105, 100]⟩ : ByteArray).data.toList = _ from HV.out] | rw [show isW ⟨(tokAt toks at_).kind, (tokAt toks at_).text, (tokAt toks at_).pos⟩ (⟨#[105, 110, 116]⟩ : ByteArray).data.toList = _ from HI.out]))
  go_cut [1, 10] (fun s1 s10 wx => ∃ (a2 o1 o2 : Int) (wi : World) (h2 : Array Obj) (d2 : Nat), wx = wext (wi.alloc (.cells #[.int .i64 2, .string ⟨#[]⟩, .int .i64 0, .int .i64 o1, .int .i64 o2, .int .i64 0, .int .i64 0, .int .i64 0, .int .i64 0, .int .i64 0, .int .i64 0] 60)) h2 d2 ∧
      s1 = .int .i64 a2 ∧ s10 = .pointer (some ⟨wi.heap.size, 0, none⟩) ∧ I64 a2 ∧ parseL toks ps at_ nm = parseB toks ps a2 (o1, o2) ∧ Grw (w.alloc (.cells (got7 (.slice none 0 0) Ty.zero 0 0 0) 67)) wi)
  case first =>
    by_cases hk : kv = 0
    · have b1 : (kv != 0) = false := by simp [hk]
      have HP2 := Lib.hid (HP.out.trans (if_neg (fun h => h hk)))
      clear hk
      by_cases h1 : (tokAt toks at_).kind = 1
      · have b2 : ((tokAt toks at_).kind == 1) = true := by simp [h1]
        cases hah : aheadL toks at_ nm
        · have HA := Lib.hid hah
          have HP3 := Lib.hid (HP2.out.trans (if_neg (by rw [hah]; simp)))
          clear h1 hah
          go_wp2_with (first
            | (go_at_call 43; refine (r06Tok_any toks A c B _ _ (by repeat (first | exact hl | exact hp | apply SlB.alloc | apply SlB.ext)) hn).mono ?_; rintro e w' ⟨rfl, hq⟩; obtain ⟨xh, xd, rfl⟩ := hq)
            | (go_at_call 45; refine (r07word_any _ _ _ _ hokt).mono ?_; rintro e w' ⟨rfl, hq⟩; obtain ⟨zh, zd, rfl⟩ := hq; rw [show knownO ⟨(tokAt toks at_).kind, (tokAt toks at_).text, (tokAt toks at_).pos⟩ = _ from HKV.out])
            | (go_at_call 48; refine (r07wrong_any toks A c B _ _ _ (by repeat (first | exact hl | exact hp | apply SlB.alloc | apply SlB.ext)) hn).mono ?_; rintro e w' ⟨rfl, hq⟩; obtain ⟨vh, vd, rfl⟩ := hq)
            | (go_at_call 44; refine (r03Is_any _ _ _ _ _).mono ?_; rintro e w' ⟨rfl, hq⟩; obtain ⟨sh, sd, rfl⟩ := hq; first | rw [show isW ⟨(tokAt toks at_).kind, (tokAt toks at_).text, (tokAt toks at_).pos⟩ (⟨#[118, 111, 105, 100]⟩ : ByteArray).data.toList = _ from HV.out] | rw [show isW ⟨(tokAt toks at_).kind, (tokAt toks at_).text, (tokAt toks at_).pos⟩ (⟨#[105, 110, 116]⟩ : ByteArray).data.toList = _ from HI.out])
            | (go_at_call 46; refine (r07ahead_any toks A c B at_ _ nm (by repeat (first | exact hl | exact hp | apply SlB.alloc | apply SlB.ext)) hn ha).mono ?_; rintro e w' ⟨rfl, hq⟩; obtain ⟨ph, pd, rfl⟩ := hq; rw [HA.out]))
          go_meet
          case rel =>
            iterate 6 (apply Exists.intro)
            refine ⟨?_, rfl, ?_, ha, HP3.out, ?_⟩
            · exact wext_wext _ _ _ _ _
            · simp [go_sem]
            · first | exact Grw.refl _ | (repeat (first | exact Grw.refl _ | apply Grw.ext | apply Grw.alloc | apply Grw.drewN | apply Grw.drew)); done
        · have HA := Lib.hid hah
          have HP3 := Lib.hid (HP2.out.trans (if_pos ⟨h1, hah⟩))
          clear h1 hah
          by_cases h0 : idxIn (tokAt toks at_).text ps 0 = 0
          · have HP4 := Lib.hid (HP3.out.trans (if_pos h0))
            have H0 := Lib.hid h0
            clear h0
            go_wp2_with (first
              | (go_at_call 43; refine (r06Tok_any toks A c B _ _ (by repeat (first | exact hl | exact hp | apply SlB.alloc | apply SlB.ext)) hn).mono ?_; rintro e w' ⟨rfl, hq⟩; obtain ⟨xh, xd, rfl⟩ := hq)
              | (go_at_call 45; refine (r07word_any _ _ _ _ hokt).mono ?_; rintro e w' ⟨rfl, hq⟩; obtain ⟨zh, zd, rfl⟩ := hq; rw [show knownO ⟨(tokAt toks at_).kind, (tokAt toks at_).text, (tokAt toks at_).pos⟩ = _ from HKV.out])
              | (go_at_call 48; refine (r07wrong_any toks A c B _ _ _ (by repeat (first | exact hl | exact hp | apply SlB.alloc | apply SlB.ext)) hn).mono ?_; rintro e w' ⟨rfl, hq⟩; obtain ⟨vh, vd, rfl⟩ := hq)
              | (go_at_call 44; refine (r03Is_any _ _ _ _ _).mono ?_; rintro e w' ⟨rfl, hq⟩; obtain ⟨sh, sd, rfl⟩ := hq; first | rw [show isW ⟨(tokAt toks at_).kind, (tokAt toks at_).text, (tokAt toks at_).pos⟩ (⟨#[118, 111, 105, 100]⟩ : ByteArray).data.toList = _ from HV.out] | rw [show isW ⟨(tokAt toks at_).kind, (tokAt toks at_).text, (tokAt toks at_).pos⟩ (⟨#[105, 110, 116]⟩ : ByteArray).data.toList = _ from HI.out])
              | (go_at_call 47; refine (r07named_any ps PA pc B _ _ _ _ (by repeat (first | exact hl | exact hp | apply SlB.alloc | apply SlB.ext)) hm).mono ?_; rintro e w' ⟨rfl, hq⟩; obtain ⟨uh, ud, rfl⟩ := hq; rw [if_pos H0.out])
              | (go_at_call 46; refine (r07ahead_any toks A c B at_ _ nm (by repeat (first | exact hl | exact hp | apply SlB.alloc | apply SlB.ext)) hn ha).mono ?_; rintro e w' ⟨rfl, hq⟩; obtain ⟨ph, pd, rfl⟩ := hq; rw [HA.out]))
            refine bodyPost_ret (v := .agg (got7 (.slice none 0 0) Ty.zero 0 4 (tokAt toks at_).pos)) ?_ rfl (by rw [HP4.out]; exact ⟨none, 0, 0, rfl, by first | exact Grw.refl _ | (repeat (first | exact Grw.refl _ | apply Grw.ext | apply Grw.alloc | apply Grw.drewN | apply Grw.drew)); done⟩)
            rw [results7 Try.results21 _ _ _ rfl (by simp [go_sem])]
            simp [go_sem]
          · have HP4 := Lib.hid (HP3.out.trans (if_neg h0))
            have H0 := Lib.hid h0
            clear h0
            go_wp2_with (first
              | (go_at_call 43; refine (r06Tok_any toks A c B _ _ (by repeat (first | exact hl | exact hp | apply SlB.alloc | apply SlB.ext)) hn).mono ?_; rintro e w' ⟨rfl, hq⟩; obtain ⟨xh, xd, rfl⟩ := hq)
              | (go_at_call 45; refine (r07word_any _ _ _ _ hokt).mono ?_; rintro e w' ⟨rfl, hq⟩; obtain ⟨zh, zd, rfl⟩ := hq; rw [show knownO ⟨(tokAt toks at_).kind, (tokAt toks at_).text, (tokAt toks at_).pos⟩ = _ from HKV.out])
              | (go_at_call 48; refine (r07wrong_any toks A c B _ _ _ (by repeat (first | exact hl | exact hp | apply SlB.alloc | apply SlB.ext)) hn).mono ?_; rintro e w' ⟨rfl, hq⟩; obtain ⟨vh, vd, rfl⟩ := hq)
              | (go_at_call 44; refine (r03Is_any _ _ _ _ _).mono ?_; rintro e w' ⟨rfl, hq⟩; obtain ⟨sh, sd, rfl⟩ := hq; first | rw [show isW ⟨(tokAt toks at_).kind, (tokAt toks at_).text, (tokAt toks at_).pos⟩ (⟨#[118, 111, 105, 100]⟩ : ByteArray).data.toList = _ from HV.out] | rw [show isW ⟨(tokAt toks at_).kind, (tokAt toks at_).text, (tokAt toks at_).pos⟩ (⟨#[105, 110, 116]⟩ : ByteArray).data.toList = _ from HI.out])
              | (go_at_call 47; refine (r07named_any ps PA pc B _ _ _ _ (by repeat (first | exact hl | exact hp | apply SlB.alloc | apply SlB.ext)) hm).mono ?_; rintro e w' ⟨rfl, hq⟩; obtain ⟨uh, ud, rfl⟩ := hq; rw [if_neg H0.out])
              | (go_at_call 46; refine (r07ahead_any toks A c B at_ _ nm (by repeat (first | exact hl | exact hp | apply SlB.alloc | apply SlB.ext)) hn ha).mono ?_; rintro e w' ⟨rfl, hq⟩; obtain ⟨ph, pd, rfl⟩ := hq; rw [HA.out]))
            go_meet
            case rel =>
              iterate 6 (apply Exists.intro)
              refine ⟨?_, rfl, ?_, I64_w64 _, HP4.out, ?_⟩
              · exact (wext_wext _ _ _ _ _).trans (wext_wext _ _ _ _ _)
              · simp [go_sem]
              · first | exact Grw.refl _ | (repeat (first | exact Grw.refl _ | apply Grw.ext | apply Grw.alloc | apply Grw.drewN | apply Grw.drew)); done
      · have b2 : ((tokAt toks at_).kind == 1) = false := by simpa using h1
        have HP3 := Lib.hid (HP2.out.trans (if_neg (fun h => h1 h.1)))
        clear h1
        go_wp2_with (first
          | (go_at_call 43; refine (r06Tok_any toks A c B _ _ (by repeat (first | exact hl | exact hp | apply SlB.alloc | apply SlB.ext)) hn).mono ?_; rintro e w' ⟨rfl, hq⟩; obtain ⟨xh, xd, rfl⟩ := hq)
          | (go_at_call 45; refine (r07word_any _ _ _ _ hokt).mono ?_; rintro e w' ⟨rfl, hq⟩; obtain ⟨zh, zd, rfl⟩ := hq; rw [show knownO ⟨(tokAt toks at_).kind, (tokAt toks at_).text, (tokAt toks at_).pos⟩ = _ from HKV.out])
          | (go_at_call 48; refine (r07wrong_any toks A c B _ _ _ (by repeat (first | exact hl | exact hp | apply SlB.alloc | apply SlB.ext)) hn).mono ?_; rintro e w' ⟨rfl, hq⟩; obtain ⟨vh, vd, rfl⟩ := hq)
          | (go_at_call 44; refine (r03Is_any _ _ _ _ _).mono ?_; rintro e w' ⟨rfl, hq⟩; obtain ⟨sh, sd, rfl⟩ := hq; first | rw [show isW ⟨(tokAt toks at_).kind, (tokAt toks at_).text, (tokAt toks at_).pos⟩ (⟨#[118, 111, 105, 100]⟩ : ByteArray).data.toList = _ from HV.out] | rw [show isW ⟨(tokAt toks at_).kind, (tokAt toks at_).text, (tokAt toks at_).pos⟩ (⟨#[105, 110, 116]⟩ : ByteArray).data.toList = _ from HI.out]))
        go_meet
        case rel =>
          iterate 6 (apply Exists.intro)
          refine ⟨?_, rfl, ?_, ha, HP3.out, ?_⟩
          · rfl
          · simp [go_sem]
          · first | exact Grw.refl _ | (repeat (first | exact Grw.refl _ | apply Grw.ext | apply Grw.alloc | apply Grw.drewN | apply Grw.drew)); done
    · have b1 : (kv != 0) = true := by simpa using hk
      have HP2 := Lib.hid (HP.out.trans (if_pos hk))
      clear hk
      go_wp2_with (first
        | (go_at_call 43; refine (r06Tok_any toks A c B _ _ (by repeat (first | exact hl | exact hp | apply SlB.alloc | apply SlB.ext)) hn).mono ?_; rintro e w' ⟨rfl, hq⟩; obtain ⟨xh, xd, rfl⟩ := hq)
        | (go_at_call 45; refine (r07word_any _ _ _ _ hokt).mono ?_; rintro e w' ⟨rfl, hq⟩; obtain ⟨zh, zd, rfl⟩ := hq; rw [show knownO ⟨(tokAt toks at_).kind, (tokAt toks at_).text, (tokAt toks at_).pos⟩ = _ from HKV.out])
        | (go_at_call 48; refine (r07wrong_any toks A c B _ _ _ (by repeat (first | exact hl | exact hp | apply SlB.alloc | apply SlB.ext)) hn).mono ?_; rintro e w' ⟨rfl, hq⟩; obtain ⟨vh, vd, rfl⟩ := hq)
        | (go_at_call 44; refine (r03Is_any _ _ _ _ _).mono ?_; rintro e w' ⟨rfl, hq⟩; obtain ⟨sh, sd, rfl⟩ := hq; first | rw [show isW ⟨(tokAt toks at_).kind, (tokAt toks at_).text, (tokAt toks at_).pos⟩ (⟨#[118, 111, 105, 100]⟩ : ByteArray).data.toList = _ from HV.out] | rw [show isW ⟨(tokAt toks at_).kind, (tokAt toks at_).text, (tokAt toks at_).pos⟩ (⟨#[105, 110, 116]⟩ : ByteArray).data.toList = _ from HI.out]))
      go_meet
      case rel =>
        iterate 6 (apply Exists.intro)
        refine ⟨?_, rfl, ?_, I64_w64 _, HP2.out, ?_⟩
        · exact wext_wext _ _ _ _ _
        · simp [go_sem]
        · first | exact Grw.refl _ | (repeat (first | exact Grw.refl _ | apply Grw.ext | apply Grw.alloc | apply Grw.drewN | apply Grw.drew)); done
  case rest =>
    obtain ⟨a2, o1, o2, wi, h2, d2, rfl, rfl, rfl, ha2, hP, ⟨h1, d1, rfl⟩⟩ := hcut
    have HPB := Lib.hid hP
    clear hP hokt HP
    by_cases hc : (tokAt toks a2).kind = 1
    · have b1 : ((tokAt toks a2).kind != 1) = false := by simp [hc]
      cases hlt : isW (tokAt toks (w64 (a2 + 1))) [60]
      · have HR := Lib.hid (show parseL toks ps at_ nm = (⟨2, (tokAt toks a2).text, 0, (o1, o2), (0, 0), (0, 0), (0, 0)⟩, w64 (a2 + 1), 0, 0) by rw [HPB.out, parseB, if_pos hc, hlt]; rfl)
        have HLT := Lib.hid hlt
        clear hc hlt
        go_wp2_with (first
          | (go_at_call 43; refine (r06Tok_any toks A c B _ _ (by repeat (first | exact hl | exact hp | apply SlB.alloc | apply SlB.ext)) hn).mono ?_; rintro e w' ⟨rfl, hq⟩; obtain ⟨yh, yd, rfl⟩ := hq)
          | (go_at_call 23; refine (r07Owners_any toks ps A PA c pc B _ _ (by repeat (first | exact hl | exact hp | apply SlB.alloc | apply SlB.ext)) hn (by repeat (first | exact hl | exact hp | apply SlB.alloc | apply SlB.ext)) hm (I64_w64 _) HK.out).mono ?_; rintro e w' ⟨A', c', rfl, hq, hown⟩; obtain ⟨qh, qd, rfl⟩ := hq)
          | (go_at_call 48; refine (r07wrong_any toks A c B _ _ _ (by repeat (first | exact hl | exact hp | apply SlB.alloc | apply SlB.ext)) hn).mono ?_; rintro e w' ⟨rfl, hq⟩; obtain ⟨vh, vd, rfl⟩ := hq)
          | (go_at_call 44; refine (r03Is_any _ _ _ _ _).mono ?_; rintro e w' ⟨rfl, hq⟩; obtain ⟨sh, sd, rfl⟩ := hq; rw [show isW ⟨(tokAt toks (w64 (a2 + 1))).kind, (tokAt toks (w64 (a2 + 1))).text, (tokAt toks (w64 (a2 + 1))).pos⟩ (⟨#[60]⟩ : ByteArray).data.toList = _ from HLT.out]))
        refine bodyPost_ret (v := .agg (got7 (.slice none 0 0) ⟨2, (tokAt toks a2).text, 0, (o1, o2), (0, 0), (0, 0), (0, 0)⟩ (w64 (a2 + 1)) 0 0)) ?_ rfl (by rw [HR.out]; exact ⟨none, 0, 0, rfl, by first | exact Grw.refl _ | (repeat (first | exact Grw.refl _ | apply Grw.ext | apply Grw.alloc | apply Grw.drewN | apply Grw.drew)); done⟩)
        rw [results7 Try.results21 _ _ _ rfl (by simp [go_sem])]
        simp [go_sem]
      · have HLT := Lib.hid hlt
        by_cases ho : (ownsL toks ps (w64 (a2 + 1))).2.2.1 = 0
        · have hL3 := ownsL_len toks ps (w64 (a2 + 1))
          obtain ⟨L, nx, oe, oa, hL⟩ : ∃ L nx oe oa, ownsL toks ps (w64 (a2 + 1)) = (L, nx, oe, oa) := ⟨_, _, _, _, rfl⟩
          rw [hL] at ho hL3
          obtain rfl : oe = 0 := ho
          have HR := Lib.hid (show parseL toks ps at_ nm = (⟨2, (tokAt toks a2).text, L.length, (o1, o2), nth2 L 0, nth2 L 1, nth2 L 2⟩, nx, 0, 0) by rw [HPB.out, parseB, if_pos hc, hlt, if_pos rfl, hL]; rfl)
          have HLL := Lib.hid hL
          clear hc hlt hL
          match L, hL3 with
          | [], _ =>
            go_wp2_with (first
              | (go_at_call 43; refine (r06Tok_any toks A c B _ _ (by repeat (first | exact hl | exact hp | apply SlB.alloc | apply SlB.ext)) hn).mono ?_; rintro e w' ⟨rfl, hq⟩; obtain ⟨yh, yd, rfl⟩ := hq)
              | (go_at_call 23; refine (r07Owners_any toks ps A PA c pc B _ _ (by repeat (first | exact hl | exact hp | apply SlB.alloc | apply SlB.ext)) hn (by repeat (first | exact hl | exact hp | apply SlB.alloc | apply SlB.ext)) hm (I64_w64 _) HK.out).mono ?_; rintro e w' ⟨A', c', rfl, hq, hown⟩; obtain ⟨qh, qd, rfl⟩ := hq; clear hown; rw [HLL.out])
              | (go_at_call 44; refine (r03Is_any _ _ _ _ _).mono ?_; rintro e w' ⟨rfl, hq⟩; obtain ⟨sh, sd, rfl⟩ := hq; rw [show isW ⟨(tokAt toks (w64 (a2 + 1))).kind, (tokAt toks (w64 (a2 + 1))).text, (tokAt toks (w64 (a2 + 1))).pos⟩ (⟨#[60]⟩ : ByteArray).data.toList = _ from HLT.out]))
            refine wp_loop_rounds 1 ?_
            rw [rounds_succ]
            go_wp2
            refine bodyPost_ret (v := .agg (got7 (.slice none 0 0) ⟨2, (tokAt toks a2).text, 0, (o1, o2), (0, 0), (0, 0), (0, 0)⟩ nx 0 0)) ?_ rfl (by rw [HR.out]; exact ⟨none, 0, 0, rfl, by first | exact Grw.refl _ | (repeat (first | exact Grw.refl _ | apply Grw.ext | apply Grw.alloc | apply Grw.drewN | apply Grw.drew)); done⟩)
            rw [results7 Try.results21 _ _ _ rfl (by simp [go_sem])]
            simp [go_sem]
          | [x], _ =>
            go_wp2_with (first
              | (go_at_call 43; refine (r06Tok_any toks A c B _ _ (by repeat (first | exact hl | exact hp | apply SlB.alloc | apply SlB.ext)) hn).mono ?_; rintro e w' ⟨rfl, hq⟩; obtain ⟨yh, yd, rfl⟩ := hq)
              | (go_at_call 23; refine (r07Owners_good toks ps A PA c pc B _ _ _ _ _ (by repeat (first | exact hl | exact hp | apply SlB.alloc | apply SlB.ext)) hn (by repeat (first | exact hl | exact hp | apply SlB.alloc | apply SlB.ext)) hm (I64_w64 _) HK.out HLL.out (by simp)).mono ?_; rintro e w' ⟨gg, qh, qd, c', rfl, rfl, hg1, hg2, hcell⟩; simp only [wext_size, World.size_alloc] at hg1 hg2 hcell)
              | (go_at_call 44; refine (r03Is_any _ _ _ _ _).mono ?_; rintro e w' ⟨rfl, hq⟩; obtain ⟨sh, sd, rfl⟩ := hq; rw [show isW ⟨(tokAt toks (w64 (a2 + 1))).kind, (tokAt toks (w64 (a2 + 1))).text, (tokAt toks (w64 (a2 + 1))).pos⟩ (⟨#[60]⟩ : ByteArray).data.toList = _ from HLT.out]))
            have e00 := fun w2 d2 hs => hcell w2 d2 hs 0 x rfl 0 _ rfl
            have e01 := fun w2 d2 hs => hcell w2 d2 hs 0 x rfl 1 _ rfl
            simp only [Nat.zero_mul, Nat.zero_add, Nat.add_zero, Nat.one_mul, Nat.reduceMul, Nat.reduceAdd] at e00 e01
            clear hcell
            refine wp_loop_rounds 2 ?_
            rw [rounds_succ]
            go_wp2
            rw [rounds_succ]
            go_wp2
            refine bodyPost_ret (v := .agg (got7 (.slice none 0 0) ⟨2, (tokAt toks a2).text, 1, (o1, o2), (x.1, x.2), (0, 0), (0, 0)⟩ nx 0 0)) ?_ rfl (by rw [HR.out]; exact ⟨none, 0, 0, rfl, by first | exact Grw.refl _ | (repeat (first | exact Grw.refl _ | apply Grw.ext | apply Grw.alloc | apply Grw.drewN | apply Grw.drew)); done⟩)
            rw [results7 Try.results21 _ _ _ rfl (by simp [go_sem])]
            simp [go_sem]
          | [x, y], _ =>
            go_wp2_with (first
              | (go_at_call 43; refine (r06Tok_any toks A c B _ _ (by repeat (first | exact hl | exact hp | apply SlB.alloc | apply SlB.ext)) hn).mono ?_; rintro e w' ⟨rfl, hq⟩; obtain ⟨yh, yd, rfl⟩ := hq)
              | (go_at_call 23; refine (r07Owners_good toks ps A PA c pc B _ _ _ _ _ (by repeat (first | exact hl | exact hp | apply SlB.alloc | apply SlB.ext)) hn (by repeat (first | exact hl | exact hp | apply SlB.alloc | apply SlB.ext)) hm (I64_w64 _) HK.out HLL.out (by simp)).mono ?_; rintro e w' ⟨gg, qh, qd, c', rfl, rfl, hg1, hg2, hcell⟩; simp only [wext_size, World.size_alloc] at hg1 hg2 hcell)
              | (go_at_call 44; refine (r03Is_any _ _ _ _ _).mono ?_; rintro e w' ⟨rfl, hq⟩; obtain ⟨sh, sd, rfl⟩ := hq; rw [show isW ⟨(tokAt toks (w64 (a2 + 1))).kind, (tokAt toks (w64 (a2 + 1))).text, (tokAt toks (w64 (a2 + 1))).pos⟩ (⟨#[60]⟩ : ByteArray).data.toList = _ from HLT.out]))
            have e00 := fun w2 d2 hs => hcell w2 d2 hs 0 x rfl 0 _ rfl
            have e01 := fun w2 d2 hs => hcell w2 d2 hs 0 x rfl 1 _ rfl
            have e10 := fun w2 d2 hs => hcell w2 d2 hs 1 y rfl 0 _ rfl
            have e11 := fun w2 d2 hs => hcell w2 d2 hs 1 y rfl 1 _ rfl
            simp only [Nat.zero_mul, Nat.zero_add, Nat.add_zero, Nat.one_mul, Nat.reduceMul, Nat.reduceAdd] at e00 e01 e10 e11
            clear hcell
            refine wp_loop_rounds 3 ?_
            rw [rounds_succ]
            go_wp2
            rw [rounds_succ]
            go_wp2
            rw [rounds_succ]
            go_wp2
            refine bodyPost_ret (v := .agg (got7 (.slice none 0 0) ⟨2, (tokAt toks a2).text, 2, (o1, o2), (x.1, x.2), (y.1, y.2), (0, 0)⟩ nx 0 0)) ?_ rfl (by rw [HR.out]; exact ⟨none, 0, 0, rfl, by first | exact Grw.refl _ | (repeat (first | exact Grw.refl _ | apply Grw.ext | apply Grw.alloc | apply Grw.drewN | apply Grw.drew)); done⟩)
            rw [results7 Try.results21 _ _ _ rfl (by simp [go_sem])]
            simp [go_sem]
          | [x, y, z], _ =>
            go_wp2_with (first
              | (go_at_call 43; refine (r06Tok_any toks A c B _ _ (by repeat (first | exact hl | exact hp | apply SlB.alloc | apply SlB.ext)) hn).mono ?_; rintro e w' ⟨rfl, hq⟩; obtain ⟨yh, yd, rfl⟩ := hq)
              | (go_at_call 23; refine (r07Owners_good toks ps A PA c pc B _ _ _ _ _ (by repeat (first | exact hl | exact hp | apply SlB.alloc | apply SlB.ext)) hn (by repeat (first | exact hl | exact hp | apply SlB.alloc | apply SlB.ext)) hm (I64_w64 _) HK.out HLL.out (by simp)).mono ?_; rintro e w' ⟨gg, qh, qd, c', rfl, rfl, hg1, hg2, hcell⟩; simp only [wext_size, World.size_alloc] at hg1 hg2 hcell)
              | (go_at_call 44; refine (r03Is_any _ _ _ _ _).mono ?_; rintro e w' ⟨rfl, hq⟩; obtain ⟨sh, sd, rfl⟩ := hq; rw [show isW ⟨(tokAt toks (w64 (a2 + 1))).kind, (tokAt toks (w64 (a2 + 1))).text, (tokAt toks (w64 (a2 + 1))).pos⟩ (⟨#[60]⟩ : ByteArray).data.toList = _ from HLT.out]))
            have e00 := fun w2 d2 hs => hcell w2 d2 hs 0 x rfl 0 _ rfl
            have e01 := fun w2 d2 hs => hcell w2 d2 hs 0 x rfl 1 _ rfl
            have e10 := fun w2 d2 hs => hcell w2 d2 hs 1 y rfl 0 _ rfl
            have e11 := fun w2 d2 hs => hcell w2 d2 hs 1 y rfl 1 _ rfl
            have e20 := fun w2 d2 hs => hcell w2 d2 hs 2 z rfl 0 _ rfl
            have e21 := fun w2 d2 hs => hcell w2 d2 hs 2 z rfl 1 _ rfl
            simp only [Nat.zero_mul, Nat.zero_add, Nat.add_zero, Nat.one_mul, Nat.reduceMul, Nat.reduceAdd] at e00 e01 e10 e11 e20 e21
            clear hcell
            refine wp_loop_rounds 4 ?_
            rw [rounds_succ]
            go_wp2
            rw [rounds_succ]
            go_wp2
            rw [rounds_succ]
            go_wp2
            rw [rounds_succ]
            go_wp2
            refine bodyPost_ret (v := .agg (got7 (.slice none 0 0) ⟨2, (tokAt toks a2).text, 3, (o1, o2), (x.1, x.2), (y.1, y.2), (z.1, z.2)⟩ nx 0 0)) ?_ rfl (by rw [HR.out]; exact ⟨none, 0, 0, rfl, by first | exact Grw.refl _ | (repeat (first | exact Grw.refl _ | apply Grw.ext | apply Grw.alloc | apply Grw.drewN | apply Grw.drew)); done⟩)
            rw [results7 Try.results21 _ _ _ rfl (by simp [go_sem])]
            simp [go_sem]
        · have HR := Lib.hid (show parseL toks ps at_ nm = (Ty.zero, 0, (ownsL toks ps (w64 (a2 + 1))).2.2.1, (ownsL toks ps (w64 (a2 + 1))).2.2.2) by rw [HPB.out, parseB, if_pos hc, hlt, if_pos rfl, if_neg ho])
          have b3 : ((ownsL toks ps (w64 (a2 + 1))).2.2.1 != 0) = true := by simpa using ho
          have HNX := Lib.hid (ownsL_next toks ps (w64 (a2 + 1)) ho)
          clear hc hlt ho
          go_wp2_with (first
            | (go_at_call 43; refine (r06Tok_any toks A c B _ _ (by repeat (first | exact hl | exact hp | apply SlB.alloc | apply SlB.ext)) hn).mono ?_; rintro e w' ⟨rfl, hq⟩; obtain ⟨yh, yd, rfl⟩ := hq)
            | (go_at_call 23; refine (r07Owners_any toks ps A PA c pc B _ _ (by repeat (first | exact hl | exact hp | apply SlB.alloc | apply SlB.ext)) hn (by repeat (first | exact hl | exact hp | apply SlB.alloc | apply SlB.ext)) hm (I64_w64 _) HK.out).mono ?_; rintro e w' ⟨A', c', rfl, hq, hown⟩; obtain ⟨qh, qd, rfl⟩ := hq)
            | (go_at_call 48; refine (r07wrong_any toks A c B _ _ _ (by repeat (first | exact hl | exact hp | apply SlB.alloc | apply SlB.ext)) hn).mono ?_; rintro e w' ⟨rfl, hq⟩; obtain ⟨vh, vd, rfl⟩ := hq)
            | (go_at_call 44; refine (r03Is_any _ _ _ _ _).mono ?_; rintro e w' ⟨rfl, hq⟩; obtain ⟨sh, sd, rfl⟩ := hq; rw [show isW ⟨(tokAt toks (w64 (a2 + 1))).kind, (tokAt toks (w64 (a2 + 1))).text, (tokAt toks (w64 (a2 + 1))).pos⟩ (⟨#[60]⟩ : ByteArray).data.toList = _ from HLT.out]))
          refine bodyPost_ret (v := .agg (got7 (.slice A' (ownsL toks ps (w64 (a2 + 1))).1.length c') Ty.zero (ownsL toks ps (w64 (a2 + 1))).2.1 (ownsL toks ps (w64 (a2 + 1))).2.2.1 (ownsL toks ps (w64 (a2 + 1))).2.2.2)) ?_ rfl (by rw [HR.out]; exact ⟨A', _, c', by rw [HNX.out], by first | exact Grw.refl _ | (repeat (first | exact Grw.refl _ | apply Grw.ext | apply Grw.alloc | apply Grw.drewN | apply Grw.drew)); done⟩)
          rw [results7 Try.results21 _ _ _ rfl (by simp [go_sem])]
          simp [go_sem]
    · have b1 : ((tokAt toks a2).kind != 1) = true := by simpa using hc
      have HR := Lib.hid (show parseL toks ps at_ nm = (Ty.zero, 0, 3, (tokAt toks a2).pos) by rw [HPB.out, parseB, if_neg hc])
      clear hc
      go_wp2_with (first
        | (go_at_call 43; refine (r06Tok_any toks A c B _ _ (by repeat (first | exact hl | exact hp | apply SlB.alloc | apply SlB.ext)) hn).mono ?_; rintro e w' ⟨rfl, hq⟩; obtain ⟨yh, yd, rfl⟩ := hq)
        | (go_at_call 23; refine (r07Owners_any toks ps A PA c pc B _ _ (by repeat (first | exact hl | exact hp | apply SlB.alloc | apply SlB.ext)) hn (by repeat (first | exact hl | exact hp | apply SlB.alloc | apply SlB.ext)) hm (I64_w64 _) HK.out).mono ?_; rintro e w' ⟨A', c', rfl, hq, hown⟩; obtain ⟨qh, qd, rfl⟩ := hq)
        | (go_at_call 48; refine (r07wrong_any toks A c B _ _ _ (by repeat (first | exact hl | exact hp | apply SlB.alloc | apply SlB.ext)) hn).mono ?_; rintro e w' ⟨rfl, hq⟩; obtain ⟨vh, vd, rfl⟩ := hq)
        | (go_at_call 44; refine (r03Is_any _ _ _ _ _).mono ?_; rintro e w' ⟨rfl, hq⟩; obtain ⟨sh, sd, rfl⟩ := hq; rw [show isW ⟨(tokAt toks (w64 (a2 + 1))).kind, (tokAt toks (w64 (a2 + 1))).text, (tokAt toks (w64 (a2 + 1))).pos⟩ (⟨#[60]⟩ : ByteArray).data.toList = _ from HLT.out]))
      refine bodyPost_ret (v := .agg (got7 (.slice none 0 0) Ty.zero 0 3 (tokAt toks a2).pos)) ?_ rfl (by rw [HR.out]; exact ⟨none, 0, 0, rfl, by first | exact Grw.refl _ | (repeat (first | exact Grw.refl _ | apply Grw.ext | apply Grw.alloc | apply Grw.drewN | apply Grw.drew)); done⟩)
      rw [results7 Try.results21 _ _ _ rfl (by simp [go_sem])]
      simp [go_sem]
end
end Go.Proofs.YtnindeoemfgkeaaRRRR
