/- The contract of the document's Reach: it answers as the program's. Conditions: fewer than a million objects. -/
import Derived.Test.YtgjpbhgobjlneaaPath14
import Derived.Test.YtgjpbhgobjlneaaPath12
import Derived.Deep.OwnRows
import Derived.Deep.DeepCutAuto
namespace Go.Proofs.Ytgjpbhgobjlneaa
open Go.RowKit Go.Sort
theorem infoB : (Try.prog.info? 4).map (fun i => (i.zero, i.size, i.bytes)) = some (some (.bool false), 1, 1) := by kernel_rfl
/-- Where the round stands: f0 at its beginning, f now, the first k looked at. -/
structure RSt (l : List Cl) (frm : List Int) (ar : Int) (f0 : Nat → Bool) (b : Bool) (k : Nat) (f : Nat → Bool) : Prop where
  sound : SoundF l frm ar f
  stay : b = false → f = f0 ∧ ClosedF l frm ar f0 k
  less : b = true → outN f l.length < outN f0 l.length
theorem RSt.start {l : List Cl} {frm : List Int} {ar : Int} {f : Nat → Bool} (h : SoundF l frm ar f) : RSt l frm ar f false 0 f :=
  ⟨h, fun _ => ⟨rfl, fun i hi => by omega⟩, fun h => by cases h⟩
theorem RSt.skip {l : List Cl} {frm : List Int} {ar : Int} {f0 f : Nat → Bool} {b : Bool} {k : Nat} (h : RSt l frm ar f0 b k f) (hno : comeL l frm f l.length ((k : Int) + 1) = true → fitL l ar ((k : Int) + 1) = true → f (k + 1) = true) : RSt l frm ar f0 b (k + 1) f :=
  ⟨h.sound, fun hb => by
    obtain ⟨rfl, hc⟩ := h.stay hb
    refine ⟨rfl, fun i hi => ?_⟩
    by_cases e : i = k
    · subst e; exact hno
    · exact hc i (by omega), h.less⟩
theorem RSt.set {l : List Cl} {frm : List Int} {ar : Int} {f0 f : Nat → Bool} {b : Bool} {k : Nat} (h : RSt l frm ar f0 b k f) (hk : k < l.length) (hc : comeL l frm f l.length ((k : Int) + 1) = true) (hf : fitL l ar ((k : Int) + 1) = true) (hn : f (k + 1) = false) : RSt l frm ar f0 true (k + 1) (fun i => if i = k + 1 then true else f i) :=
  ⟨h.sound.set hc hf, fun hb => (by cases hb), fun _ => by
    have := outN_set hn (k := l.length)
    rw [if_pos hk] at this
    cases b with
    | false => obtain ⟨rfl, _⟩ := h.stay rfl; omega
    | true => have := h.less rfl; omega⟩
/-- What the row holds. -/
def inW (w : World) (g i : Nat) : Bool := match w.cell? ⟨g, i, none⟩ with
  | some (.bool b) => b
  | _ => false
theorem inW_row {w : World} {g n : Nat} {f : Nat → Bool} {t : TypeId} (h : w.rowIs g t (n + 1) (fun i => .bool (f i))) : outN (inW w g) n = outN f n :=
  outN_same fun i hi => by unfold inW; rw [h.cell (by omega)]
theorem rowGrw {w w' : World} {g n : Nat} {t : TypeId} {f : Nat → Value} (h : w.rowIs g t n f) (hg : Grw w w') : w'.rowIs g t n f := h.of_block (hg.below.block g h.lt)
section
variable (l : List Cl) (A : Option Addr) (c B : Nat) (w : World)
set_option maxRecDepth 100000 in
set_option maxHeartbeats 8000000 in
theorem r45Reach_any (xs : List Int) (XA : Option Addr) (xc XB : Nat) (ar : Int) (h : Hp w B A l) (hn : l.length ≤ 1000000) (hx : SlB intC 1 w XB XA xs) (hxn : xs.length ≤ 1000000) :
    Calls Try.prog 23 #[.slice A l.length c, .slice XA xs.length xc, .int .i64 ar] w (IntsPost (reachL l xs ar) w) := by
  have H := Lib.hid h
  have HX := Lib.hid hx
  obtain ⟨i0, hi, hz0, hz1, hz2⟩ := info_parts infoI
  have HNL := Lib.hid (fun a => namesL_len h a)
  have ec : ((l.length + 1 : Nat) : Int) = (l.length : Int) + 1 := by omega
  have hmk := run_make_row' (P := Try.prog) 72 4 (.bool false) 1 Try.underlying72 infoB rfl .i64 .i64 (l.length + 1) (by omega) (by omega)
  rw [ec] at hmk
  clear h hx
  go_enter Try.func23, Try.ntmps23
  go_wp2
  go_loopw [8] (fun m wr => ∃ (b : Bool) (f : Nat → Bool), m = .bool b ∧ wr.rowIs w.heap.size 4 (l.length + 1) (fun i => .bool (f i)) ∧ SoundF l xs ar f ∧ Grw w wr ∧ (b = false → ClosedF l xs ar f l.length)) (fun m wr => match m with | .bool true => 1 + outN (inW wr w.heap.size) l.length | _ => 0)
  case atStart => exact ⟨true, fun _ => false, rfl, World.rowIs_made _ _ _ _, fun i h => (by cases h), (Grw.refl _).alloc _, fun h => (by cases h)⟩
  case round =>
    clear hmk
    obtain ⟨V1, rfl⟩ : ∃ V, V = wr := ⟨_, rfl⟩
    obtain ⟨b, f0, rfl, hrow, hs, hg, hcl⟩ := hrel
    cases b
    · have HRE := Lib.hid (inL_reach hs (hcl rfl))
      have HROW := Lib.hid hrow
      have HG := Lib.hid hg
      clear hcl hs hrow hg
      go_wp2
      go_loopw [12, 13] (fun out i wr2 => ∃ (k : Nat) (OA : Option Addr) (oc : Nat), k ≤ l.length ∧ i = .int .i64 ((k : Int) + 1) ∧ out = .slice OA (inL f0 k).length oc ∧ wr2.ownsRow V1.heap.size 3 1 (.slice OA (inL f0 k).length oc) (inL f0 k).length ((inL f0 k).map (Value.int .i64)) ∧ Grw V1 wr2) (fun _ i _ => l.length + 1 - (intOf i).toNat)
      case atStart => exact ⟨0, none, 0, Nat.zero_le _, rfl, rfl, World.ownsRow_nil _ _ _ _, Grw.refl _⟩
      case round =>
        obtain ⟨k, OA, oc, hkl, rfl, rfl, hown, hg⟩ := hrel
        by_cases hlt : k < l.length
        · have g3 : (k : Int) < (l.length : Int) := by omega
          have d1 := (rowGrw HROW.out hg).cell (i := k + 1) (by omega)
          have HP := Lib.hid (show inL f0 (k + 1) = inL f0 k ++ if f0 (k + 1) then [(k : Int) + 1] else [] from rfl)
          have hpl := inL_len f0 k
          obtain ⟨acc, hacc⟩ : ∃ acc, inL f0 k = acc := ⟨_, rfl⟩
          rw [hacc] at hown hpl HP ⊢
          have HO := Lib.hid hown
          have HG2 := Lib.hid hg
          have hszw := hg.below.size
          clear hown hg hacc
          cases hf : f0 (k + 1)
          · have HF := Lib.hid hf
            rw [hf] at d1
            clear hf
            go_wp2
            go_roundw
            case rel => first | exact ⟨k + 1, OA, oc, by omega, by go_num, by rw [HP.out, HF.out]; simp, by rw [HP.out, HF.out]; simpa using HO.out, (by repeat (first | exact HG2.out | apply Grw.ext | apply Grw.alloc | apply Grw.drewN | apply Grw.drew))⟩ | ((repeat apply Exists.intro); exact ⟨⟨k + 1, OA, oc, by omega, by go_num, by rw [HP.out, HF.out]; simp, by rw [HP.out, HF.out]; simpa using HO.out, (by repeat (first | exact HG2.out | apply Grw.ext | apply Grw.alloc | apply Grw.drewN | apply Grw.drew))⟩, rfl⟩)
            case measure => simp [intOf]; omega
          · have HF := Lib.hid hf
            rw [hf] at d1
            clear hf
            go_wp2_with (first
              | (at_builtin
                 refine wpList_append_own _ rfl _ _ 39 rfl (V1.heap.size) 3 i0 _ 1 8 Try.underlying39 hi hz0 hz1 hz2 rfl (by decide) (.slice OA acc.length oc) (acc.length) (acc.map (Value.int .i64)) rfl ((own_alloc HO.out _)) ⟨wr.heap.size, 0, none⟩ 1 1 [.int .i64 ((k : Int) + 1)] rfl rfl ?c1 ?c2 ?c3 ?c4 ?c5 ?_
                 case c1 => exact news_alloc _ #[_] _ _ (by simp [wext_size])
                 case c2 => simp [Value.oneCell']
                 case c3 => unfold maxLen; omega
                 case c4 => omega
                 case c5 => simp [wext_size]; omega
                 intro v' w1 hown1 hgrow _
                 (have HN1 := Lib.hid hown1; have HGr := Lib.hid (show Grw V1 w1 by exact Grw.grown (row := (Value.slice OA acc.length oc).ownBlock) (by repeat (first | exact HG2.out | apply Grw.ext | apply Grw.alloc | apply Grw.drewN | apply Grw.drew)) hgrow (own_beyond HO.out)); obtain ⟨g', cap', rfl⟩ := ownsRow_succ HN1.out; clear hown1 hgrow)))
            go_roundw
            case rel => first | exact ⟨k + 1, some ⟨g', 0, none⟩, cap', by omega, by go_num, by rw [HP.out, HF.out]; simp, by rw [HP.out, HF.out]; simpa using HN1.out, HGr.out⟩ | ((repeat apply Exists.intro); exact ⟨⟨k + 1, some ⟨g', 0, none⟩, cap', by omega, by go_num, by rw [HP.out, HF.out]; simp, by rw [HP.out, HF.out]; simpa using HN1.out, HGr.out⟩, rfl⟩)
            case measure => simp [intOf]; omega
        · obtain rfl : k = l.length := by omega
          have HO := Lib.hid hown
          have HG2 := Lib.hid hg
          clear hown hg
          go_wp2
          go_ret
          exact ⟨OA, oc, by rw [← HRE.out]; rfl, HG.out.trans HG2.out, by rw [← HRE.out]; exact own_mono HO.out HG.out.below.size⟩
    · have HS0 := Lib.hid (RSt.start hs)
      have HM0 := Lib.hid (inW_row hrow)
      have HROW := Lib.hid hrow
      have HG := Lib.hid hg
      clear hcl hs hrow hg
      go_wp2
      go_loopw [8, 9] (fun m a wr2 => ∃ (b : Bool) (k : Nat) (f : Nat → Bool), m = .bool b ∧ a = .int .i64 ((k : Int) + 1) ∧ k ≤ l.length ∧ wr2.rowIs w.heap.size 4 (l.length + 1) (fun i => .bool (f i)) ∧ Grw w wr2 ∧ RSt l xs ar f0 b k f) (fun _ a _ => l.length + 1 - (intOf a).toNat)
      case atStart => exact ⟨false, 0, f0, rfl, rfl, Nat.zero_le _, HROW.out, HG.out, HS0.out⟩
      case round =>
        obtain ⟨V2, rfl⟩ : ∃ V, V = wr := ⟨_, rfl⟩
        obtain ⟨b, k, f, rfl, rfl, hk, hrow, hg, hst⟩ := hrel
        by_cases hlt : k < l.length
        · have g3 : (k : Int) < (l.length : Int) := by omega
          have HROW2 := Lib.hid hrow
          have HG2 := Lib.hid hg
          have HST := Lib.hid hst
          clear hrow hg hst
          go_wp2_with (go_at_call 41; refine (r45has_any _ xs XA xc XB ((k : Int) + 1) (HX.out.grw HG2.out) hxn).mono ?_; rintro e w' ⟨rfl, rfl⟩)
          go_loopw [10, 11] (fun cm y wr3 => ∃ (j : Nat) (cb : Bool), cm = .bool cb ∧ comeL l xs f j ((k : Int) + 1) = cb ∧ y = .int .i64 ((j : Int) + 1) ∧ j ≤ l.length ∧ Grw V2 wr3) (fun _ y _ => l.length + 1 - (intOf y).toNat)
          case atStart => exact ⟨0, _, rfl, comeL_zero _ _ _ _, rfl, Nat.zero_le _, Grw.refl _⟩
          case round =>
            obtain ⟨j, cb, rfl, hcb, rfl, hj, hg3⟩ := hrel
            have HG3 := Lib.hid hg3
            have HROW3 := Lib.hid (rowGrw HROW2.out hg3)
            have HCB := Lib.hid hcb
            clear hg3 hcb
            cases cb
            · by_cases hjl : j < l.length
              · have g4 : (j : Int) < (l.length : Int) := by omega
                have d1 := HROW3.out.cell (i := j + 1) (by omega)
                have HCS := Lib.hid (comeL_succ l xs f j ((k : Int) + 1))
                cases hf : f (j + 1)
                · have HF := Lib.hid hf
                  rw [hf] at d1
                  clear hf
                  go_wp2
                  go_roundw
                  case rel => first | exact ⟨j + 1, false, rfl, by rw [HCS.out, HCB.out, HF.out]; rfl, by go_num, by omega, HG3.out⟩ | ((repeat apply Exists.intro); exact ⟨⟨j + 1, false, rfl, by rw [HCS.out, HCB.out, HF.out]; rfl, by go_num, by omega, HG3.out⟩, rfl⟩)
                  case measure => simp [intOf]; omega
                · have HF := Lib.hid hf
                  rw [hf] at d1
                  clear hf
                  go_wp2_with (first
                    | (go_at_call 19; refine (r45Names_any l A c B _ ((j : Int) + 1) (H.out.grw (HG2.out.trans HG3.out)) hn).mono ?_; rintro e w5 ⟨NA, nc, rfl, hq5, hr5⟩; have HR5 := Lib.hid (own_slb hr5); have HQ5 := Lib.hid (HG3.out.trans hq5); clear hr5 hq5)
                    | (go_at_call 41; refine (r45has_any _ (namesL l ((j : Int) + 1)) NA nc _ ((k : Int) + 1) HR5.out (HNL.out _)).mono ?_; rintro e w' ⟨rfl, rfl⟩))
                  go_roundw
                  case rel => first | exact ⟨j + 1, _, rfl, by rw [HCS.out, HCB.out, HF.out]; rfl, by go_num, by omega, HQ5.out⟩ | ((repeat apply Exists.intro); exact ⟨⟨j + 1, _, rfl, by rw [HCS.out, HCB.out, HF.out]; rfl, by go_num, by omega, HQ5.out⟩, rfl⟩)
                  case measure => simp [intOf]; omega
              · obtain rfl : j = l.length := by omega
                have HSK := Lib.hid (HST.out.skip (fun h => (by rw [HCB.out] at h; cases h)))
                go_wp2
                go_roundw
                case rel => first | exact ⟨b, k + 1, f, rfl, by go_num, by omega, HROW3.out, HG2.out.trans HG3.out, HSK.out⟩ | ((repeat apply Exists.intro); exact ⟨⟨b, k + 1, f, rfl, by go_num, by omega, HROW3.out, HG2.out.trans HG3.out, HSK.out⟩, rfl⟩)
                case measure => simp [intOf]; omega
            · have HCN := Lib.hid (comeL_mono l xs f ((k : Int) + 1) hj HCB.out)
              have d1 := HROW3.out.cell (i := k + 1) (by omega)
              have fz := HROW3.out.frozen (k + 1)
              cases hf : f (k + 1)
              · have HF := Lib.hid hf
                rw [hf] at d1
                clear hf
                by_cases har : (k : Int) + 1 = ar
                · have e1 : ((k : Int) + 1 != ar) = false := by simp [har]
                  have e2 : ((k : Int) + 1 == ar) = true := by simp [har]
                  have HSK := Lib.hid (HST.out.skip (fun _ h => (by simp only [fitL, e1, Bool.false_and] at h; cases h)))
                  clear har
                  go_wp2
                  all_goals
                    go_roundw
                    case rel => first | exact ⟨b, k + 1, f, rfl, by go_num, by omega, HROW3.out, HG2.out.trans HG3.out, HSK.out⟩ | ((repeat apply Exists.intro); exact ⟨⟨b, k + 1, f, rfl, by go_num, by omega, HROW3.out, HG2.out.trans HG3.out, HSK.out⟩, rfl⟩)
                    case measure => simp [intOf]; omega
                · have e1 : ((k : Int) + 1 != ar) = true := by simp [har]
                  have e2 : ((k : Int) + 1 == ar) = false := by simp [har]
                  clear har
                  cases hlv : liveL l ((k : Int) + 1)
                  · have HLV := Lib.hid hlv
                    have HSK := Lib.hid (HST.out.skip (fun _ h => (by simp only [fitL, hlv, Bool.and_false] at h; cases h)))
                    clear hlv
                    go_wp2_with (go_at_call 37; refine (r45live_any l A c B _ ((k : Int) + 1) (H.out.grw (HG2.out.trans HG3.out)) hn).mono ?_; rintro e w' ⟨rfl, rfl⟩; rw [HLV.out])
                    all_goals
                      go_roundw
                      case rel => first | exact ⟨b, k + 1, f, rfl, by go_num, by omega, HROW3.out, HG2.out.trans HG3.out, HSK.out⟩ | ((repeat apply Exists.intro); exact ⟨⟨b, k + 1, f, rfl, by go_num, by omega, HROW3.out, HG2.out.trans HG3.out, HSK.out⟩, rfl⟩)
                      case measure => simp [intOf]; omega
                  · have HLV := Lib.hid hlv
                    have HSET := Lib.hid (HST.out.set hlt HCN.out (by simp only [fitL, hlv, e1, Bool.and_true]) HF.out)
                    clear hlv
                    go_wp2_with (go_at_call 37; refine (r45live_any l A c B _ ((k : Int) + 1) (H.out.grw (HG2.out.trans HG3.out)) hn).mono ?_; rintro e w' ⟨rfl, rfl⟩; rw [HLV.out])
                    all_goals
                      go_roundw
                      case rel => first | exact ⟨true, k + 1, (fun i => if i = k + 1 then true else f i), rfl, by go_num, by omega, (HROW3.out.set (k + 1) (.bool true)).congr (fun i _ => (by dsimp only; split <;> rfl)), (HG2.out.trans HG3.out).setCell (Nat.le_refl _) _, HSET.out⟩ | ((repeat apply Exists.intro); exact ⟨⟨true, k + 1, (fun i => if i = k + 1 then true else f i), rfl, by go_num, by omega, (HROW3.out.set (k + 1) (.bool true)).congr (fun i _ => (by dsimp only; split <;> rfl)), (HG2.out.trans HG3.out).setCell (Nat.le_refl _) _, HSET.out⟩, rfl⟩)
                      case measure => simp [intOf]; omega
              · have HSK := Lib.hid (HST.out.skip (fun _ _ => hf))
                rw [hf] at d1
                clear hf
                go_wp2
                all_goals
                  go_roundw
                  case rel => first | exact ⟨b, k + 1, f, rfl, by go_num, by omega, HROW3.out, HG2.out.trans HG3.out, HSK.out⟩ | ((repeat apply Exists.intro); exact ⟨⟨b, k + 1, f, rfl, by go_num, by omega, HROW3.out, HG2.out.trans HG3.out, HSK.out⟩, rfl⟩)
                  case measure => simp [intOf]; omega
        · obtain rfl : k = l.length := by omega
          have HROW2 := Lib.hid hrow
          have HG2 := Lib.hid hg
          have HST := Lib.hid hst
          have HM2 := Lib.hid (inW_row hrow)
          clear hrow hg hst
          go_wp2
          go_roundw
          case rel => exact ⟨b, f, rfl, HROW2.out, HST.out.sound, HG2.out, fun hb => by obtain ⟨e, hc⟩ := HST.out.stay hb; rw [e]; exact hc⟩
          case measure =>
            cases b
            · simp; omega
            · have := HST.out.less rfl
              simp [HM0.out, HM2.out]; omega
end
end Go.Proofs.Ytgjpbhgobjlneaa
