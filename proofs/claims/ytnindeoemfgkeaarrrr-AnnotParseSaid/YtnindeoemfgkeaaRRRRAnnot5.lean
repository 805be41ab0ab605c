/- Contracts of annot's reader: owners, ahead. -/
import Derived.Test.YtnindeoemfgkeaaRRRRAnnot4
namespace Go.Proofs.YtnindeoemfgkeaaRRRR
open Go.RowKit
theorem own_sb {w : World} {base : Nat} {e : TypeId} {size n : Nat} {v : Value} {xs : List Value} (hown : w.ownsRow base e size v n xs) {g : Nat} (hg : g < base) (t : TypeId) (cs : Array Value) : (sb w g t cs).ownsRow base e size v n xs := by
  obtain ⟨h1, h2⟩ := hown
  refine ⟨h1, ?_⟩
  rcases h2 with h2 | ⟨g', cap, cur, hv, hg', hh, r⟩
  · exact .inl h2
  · exact .inr ⟨g', cap, cur, hv, hg', by rw [sb_get_other _ _ _ _ _ (by omega)]; exact hh, r⟩
theorem own_resb {w : World} {e : TypeId} {size n : Nat} {v : Value} {xs : List Value} {g : Nat} {t : TypeId} {cs : Array Value} {xh : Array Obj} {xd : Nat}
    (hown : (wext (sb w g t cs) xh xd).ownsRow w.heap.size e size v n xs) (hg : g < w.heap.size) (cs' : Array Value) : (wext (sb w g t cs') xh xd).ownsRow w.heap.size e size v n xs := by
  have := own_sb hown hg t cs'
  rwa [sb_wext _ _ _ _ _ _ (by rw [sb_size]; exact hg), sb_sb] at this
section
variable (toks : List Tok) (ps : List (List UInt8)) (A PA : Option Addr) (c pc g B : Nat) (at_ fe fa k : Int) (w : World)
theorem aOne_any (n : Nat) (hn3 : n ≤ 3) (hr : Rd toks ps A PA B g w) (hb : w.heap[g]? = some (.cells #[.slice A toks.length c, .int .i64 (at_), .slice PA ps.length pc, .int .i64 (fe), .int .i64 (fa)] 109)) (ha : I64 at_) :
    Calls Try.prog 75 #[.pointer (some ⟨g, 0, none⟩), .int .i64 n] w fun e w' =>
      ((own1 (tokAt toks at_) ps n).1 = 0 → e = .returned (.tuple #[.agg #[.int .i64 (own1 (tokAt toks at_) ps n).2.1, .int .i64 (own1 (tokAt toks at_) ps n).2.2], .bool true]) ∧ Grw (sb w g 109 #[.slice A toks.length c, .int .i64 (w64 (at_ + 1)), .slice PA ps.length pc, .int .i64 (fe), .int .i64 (fa)]) w') ∧
      ((own1 (tokAt toks at_) ps n).1 ≠ 0 → (∃ x y, e = .returned (.tuple #[.agg #[.int .i64 x, .int .i64 y], .bool false])) ∧ Grw (sb w g 109 #[.slice A toks.length c, .int .i64 (at_), .slice PA ps.length pc, .int .i64 ((own1 (tokAt toks at_) ps n).1), .int .i64 ((tokAt toks at_).pos)]) w') := by
  have := aOne_sb toks ps A PA c pc g B at_ fe fa w n hn3 hr ha
  rw [sb_self w g _ _ hb] at this
  exact this
/-- Owners from the sign at a place on; behind one: what follows. -/
def ownsF (toks : List Tok) (ps : List (List UInt8)) : Nat → Int → List (Int × Int) → List (Int × Int) × Int × Int × Int
  | 0, _, _ => ([], 0, 0, 0)
  | f + 1, at_, out =>
    if (own1 (tokAt toks (w64 (at_ + 1))) ps out.length).1 = 0 then
      if isW (tokAt toks (w64 (w64 (at_ + 1) + 1))) [44] then ownsF toks ps f (w64 (w64 (at_ + 1) + 1)) (out ++ [(own1 (tokAt toks (w64 (at_ + 1))) ps out.length).2])
      else if isW (tokAt toks (w64 (w64 (at_ + 1) + 1))) [62] then (out ++ [(own1 (tokAt toks (w64 (at_ + 1))) ps out.length).2], w64 (w64 (w64 (at_ + 1) + 1) + 1), 0, 0)
      else ([], 0, 3, (tokAt toks (w64 (w64 (at_ + 1) + 1))).pos)
    else ([], 0, (own1 (tokAt toks (w64 (at_ + 1))) ps out.length).1, (tokAt toks (w64 (at_ + 1))).pos)
def ownsT (toks : List Tok) (ps : List (List UInt8)) (f : Nat) (at_ : Int) (out : List (Int × Int)) : List (Int × Int) × Int × Int × Int :=
  if isW (tokAt toks at_) [44] then ownsF toks ps f at_ out
  else if isW (tokAt toks at_) [62] then (out, w64 (at_ + 1), 0, 0)
  else ([], 0, 3, (tokAt toks at_).pos)
def ownsL (toks : List Tok) (ps : List (List UInt8)) (at_ : Int) : List (Int × Int) × Int × Int × Int :=
  if isW (tokAt toks at_) [60] then ownsF toks ps 4 at_ [] else ([], 0, 3, (tokAt toks at_).pos)
theorem ownsF_bad (f : Nat) (out : List (Int × Int)) (h : (own1 (tokAt toks (w64 (at_ + 1))) ps out.length).1 ≠ 0) :
    ownsF toks ps (f + 1) at_ out = ([], 0, (own1 (tokAt toks (w64 (at_ + 1))) ps out.length).1, (tokAt toks (w64 (at_ + 1))).pos) := by rw [ownsF, if_neg h]
theorem ownsF_ok (f : Nat) (out : List (Int × Int)) (h : (own1 (tokAt toks (w64 (at_ + 1))) ps out.length).1 = 0) :
    ownsF toks ps (f + 1) at_ out = ownsT toks ps f (w64 (w64 (at_ + 1) + 1)) (out ++ [(own1 (tokAt toks (w64 (at_ + 1))) ps out.length).2]) := by rw [ownsF, if_pos h, ownsT]
theorem own1_three (t : Tok) : (own1 t ps 3).1 ≠ 0 := by
  unfold own1; split
  · split <;> simp
  · split <;> simp
def ownC (o : Int × Int) : List Value := [.int .i64 o.1, .int .i64 o.2]
def slLen : Value → Nat | .slice _ n _ => n | _ => 0
theorem info_Owner : (Try.prog.info? 57).map (fun i => (i.zero, i.size, i.bytes)) = some (some (.agg #[.int .i64 0, .int .i64 0]), 2, 16) := by kernel_rfl
/-- What owners leaves. -/
def OwnsPost (e : Ending) (w' : World) : Prop :=
  ((ownsL toks ps at_).2.2.1 = 0 → ∃ A' c', e = .returned (.tuple #[.slice A' (ownsL toks ps at_).1.length c', .bool true]) ∧ Grw (sb w g 109 #[.slice A toks.length c, .int .i64 ((ownsL toks ps at_).2.1), .slice PA ps.length pc, .int .i64 (fe), .int .i64 (fa)]) w' ∧
      w'.ownsRow w.heap.size 57 2 (.slice A' (ownsL toks ps at_).1.length c') (ownsL toks ps at_).1.length ((ownsL toks ps at_).1.flatMap ownC)) ∧
  ((ownsL toks ps at_).2.2.1 ≠ 0 → e = .returned (.tuple #[.slice none 0 0, .bool false]) ∧ ∃ at', Grw (sb w g 109 #[.slice A toks.length c, .int .i64 (at'), .slice PA ps.length pc, .int .i64 ((ownsL toks ps at_).2.2.1), .int .i64 ((ownsL toks ps at_).2.2.2)]) w')
set_option maxRecDepth 100000 in
set_option maxHeartbeats 8000000 in
theorem aOwners_sb (hr : Rd toks ps A PA B g w) (ha : I64 at_) :
    Calls Try.prog 49 #[.pointer (some ⟨g, 0, none⟩)] (sb w g 109 #[.slice A toks.length c, .int .i64 (at_), .slice PA ps.length pc, .int .i64 (fe), .int .i64 (fa)]) (OwnsPost toks ps A PA c pc g at_ fe fa w) := by
  have hg := hr.hg
  cases hlt : isW (tokAt toks at_) [60]
  · have HO := Lib.hid (show ownsL toks ps at_ = ([], 0, 3, (tokAt toks at_).pos) by rw [ownsL, hlt]; rfl)
    have HL := Lib.hid hlt
    clear hlt
    go_enter Try.func49, Try.ntmps49
    go_wp2_with (first
      | (go_at_call 69; refine (aIs_zero toks ps A PA c pc g B at_ fe fa _ _ (by repeat (first | exact hr | apply Rd.ext | apply Rd.alloc | apply Rd.sb | apply Rd.drewN | apply Rd.drew)) (by repeat (first | exact blk_sb _ _ _ _ hg | exact hg | apply blk_ext | apply blk_alloc | apply blk_drewN | apply blk_drew)) ha).mono ?_; rintro e w' ⟨rfl, hq⟩; obtain ⟨xh, xd, rfl⟩ := hq; rw [show isW (tokAt toks at_) (⟨#[60]⟩ : ByteArray).data.toList = false from HL.out])
      | (go_at_call 70; refine (aBad_any toks ps A PA c pc g B at_ fe fa _ _ (by repeat (first | exact hr | apply Rd.ext | apply Rd.alloc | apply Rd.sb | apply Rd.drewN | apply Rd.drew)) (by repeat (first | exact blk_sb _ _ _ _ hg | exact hg | apply blk_ext | apply blk_alloc | apply blk_drewN | apply blk_drew)) ha).mono ?_; rintro e w' ⟨rfl, hq⟩; obtain ⟨yh, yd, rfl⟩ := hq))
    go_ret2
    refine ⟨by rw [HO.out]; exact fun h => absurd h (by simp), fun _ => ⟨rfl, at_, ?_⟩⟩
    rw [HO.out]; first | exact Grw.refl _ | (repeat (first | exact Grw.refl _ | apply Grw.ext | apply Grw.alloc | apply Grw.drewN | apply Grw.drew)); done
  · have HO := Lib.hid (show ownsL toks ps at_ = ownsF toks ps 4 at_ [] by rw [ownsL, hlt]; rfl)
    have HL := Lib.hid hlt
    clear hlt
    obtain ⟨i0, hi0, hz0, hz1, hz2⟩ := info_parts info_Owner
    go_enter Try.func49, Try.ntmps49
    go_wp2_with (first
      | (go_at_call 69; refine (aIs_zero toks ps A PA c pc g B at_ fe fa _ _ (by repeat (first | exact hr | apply Rd.ext | apply Rd.alloc | apply Rd.sb | apply Rd.drewN | apply Rd.drew)) (by repeat (first | exact blk_sb _ _ _ _ hg | exact hg | apply blk_ext | apply blk_alloc | apply blk_drewN | apply blk_drew)) ha).mono ?_; rintro e w' ⟨rfl, hq⟩; obtain ⟨xh, xd, rfl⟩ := hq; rw [show isW (tokAt toks at_) (⟨#[60]⟩ : ByteArray).data.toList = true from HL.out]))
    go_loopw [4, 5] (fun out fi wr => ∃ (a1 : Int) (f co : Nat) (Ao : Option Addr) (acc : List (Int × Int)) (b : Bool) (xh : Array Obj) (xd : Nat), I64 a1 ∧ fi = .bool b ∧ f + acc.length = 4 ∧ acc.length ≤ 3 ∧
        ownsL toks ps at_ = (if b then ownsF toks ps f a1 acc else ownsT toks ps f a1 acc) ∧ out = .slice Ao acc.length co ∧ wr = wext (sb w g 109 #[.slice A toks.length c, .int .i64 (a1), .slice PA ps.length pc, .int .i64 (fe), .int .i64 (fa)]) xh xd ∧
        wr.ownsRow w.heap.size 57 2 (.slice Ao acc.length co) acc.length (acc.flatMap ownC)) (fun out _ _ => 4 - slLen out)
    case atStart => exact ⟨at_, 4, 0, none, [], true, xh, xd, ha, rfl, rfl, Nat.zero_le _, HO.out, rfl, rfl, World.ownsRow_nil _ _ _ _⟩
    case round =>
      obtain ⟨a1, f, co, Ao, acc, b, xh, xd, ha1, rfl, hfa, hle3, hR, rfl, rfl, hown⟩ := hrel
      obtain ⟨f, rfl⟩ : ∃ q, f = q + 1 := ⟨f - 1, by omega⟩
      cases b
      · cases h44 : isW (tokAt toks a1) [44]
        · have H44 := Lib.hid h44
          simp only [Bool.false_eq_true, if_false, ownsT, h44] at hR
          clear h44
          cases h62 : isW (tokAt toks a1) [62]
          · have H62 := Lib.hid h62
            simp only [h62, Bool.false_eq_true, if_false] at hR
            have HR := Lib.hid hR
            clear hR h62
            go_wp2_with (first
              | (go_at_call 69; refine (aIs_zero toks ps A PA c pc g B a1 fe fa _ _ (by repeat (first | exact hr | apply Rd.ext | apply Rd.alloc | apply Rd.sb | apply Rd.drewN | apply Rd.drew)) (by repeat (first | exact blk_sb _ _ _ _ hg | exact hg | apply blk_ext | apply blk_alloc | apply blk_drewN | apply blk_drew)) ha1).mono ?_; rintro e w' ⟨rfl, hq⟩; obtain ⟨yh, yd, rfl⟩ := hq; first | rw [show isW (tokAt toks a1) (⟨#[44]⟩ : ByteArray).data.toList = false from H44.out] | rw [show isW (tokAt toks a1) (⟨#[62]⟩ : ByteArray).data.toList = false from H62.out])
              | (go_at_call 70; refine (aBad_any toks ps A PA c pc g B a1 fe fa _ _ (by repeat (first | exact hr | apply Rd.ext | apply Rd.alloc | apply Rd.sb | apply Rd.drewN | apply Rd.drew)) (by repeat (first | exact blk_sb _ _ _ _ hg | exact hg | apply blk_ext | apply blk_alloc | apply blk_drewN | apply blk_drew)) ha1).mono ?_; rintro e w' ⟨rfl, hq⟩; obtain ⟨vh, vd, rfl⟩ := hq))
            go_ret2
            refine ⟨by rw [HR.out]; exact fun h => absurd h (by simp), fun _ => ⟨rfl, a1, ?_⟩⟩
            rw [HR.out]; first | exact Grw.refl _ | (repeat (first | exact Grw.refl _ | apply Grw.ext | apply Grw.alloc | apply Grw.drewN | apply Grw.drew)); done
          · have H62 := Lib.hid h62
            simp only [h62, if_true] at hR
            have HR := Lib.hid hR
            clear hR h62
            go_wp2_with (first
              | (go_at_call 69; refine (aIs_zero toks ps A PA c pc g B a1 fe fa _ _ (by repeat (first | exact hr | apply Rd.ext | apply Rd.alloc | apply Rd.sb | apply Rd.drewN | apply Rd.drew)) (by repeat (first | exact blk_sb _ _ _ _ hg | exact hg | apply blk_ext | apply blk_alloc | apply blk_drewN | apply blk_drew)) ha1).mono ?_; rintro e w' ⟨rfl, hq⟩; obtain ⟨yh, yd, rfl⟩ := hq; first | rw [show isW (tokAt toks a1) (⟨#[44]⟩ : ByteArray).data.toList = false from H44.out] | rw [show isW (tokAt toks a1) (⟨#[62]⟩ : ByteArray).data.toList = true from H62.out]))
            go_ret2
            refine ⟨fun _ => ⟨Ao, co, by rw [HR.out]; rfl, by rw [HR.out]; first | exact Grw.refl _ | (repeat (first | exact Grw.refl _ | apply Grw.ext | apply Grw.alloc | apply Grw.drewN | apply Grw.drew)); done, ?_⟩, by rw [HR.out]; exact fun h => absurd rfl h⟩
            rw [HR.out]; exact own_ext (own_ext (own_resb hown hg _) _ _) _ _
        · have H44 := Lib.hid h44
          simp only [Bool.false_eq_true, if_false, ownsT, h44, if_true] at hR
          clear h44
          cases herr : decide ((own1 (tokAt toks (w64 (a1 + 1))) ps acc.length).1 = 0)
          · have herr' : (own1 (tokAt toks (w64 (a1 + 1))) ps acc.length).1 ≠ 0 := by simpa using herr
            have HE := Lib.hid herr'
            have HR := Lib.hid (hR.trans (ownsF_bad toks ps a1 f acc herr'))
            clear herr herr' hR
            go_wp2_with (first
              | (go_at_call 69; refine (aIs_zero toks ps A PA c pc g B a1 fe fa _ _ (by repeat (first | exact hr | apply Rd.ext | apply Rd.alloc | apply Rd.sb | apply Rd.drewN | apply Rd.drew)) (by repeat (first | exact blk_sb _ _ _ _ hg | exact hg | apply blk_ext | apply blk_alloc | apply blk_drewN | apply blk_drew)) ha1).mono ?_; rintro e w' ⟨rfl, hq⟩; obtain ⟨yh, yd, rfl⟩ := hq; rw [show isW (tokAt toks a1) (⟨#[44]⟩ : ByteArray).data.toList = true from H44.out])
              | (go_at_call 75; refine (aOne_any toks ps A PA c pc g B (w64 (a1 + 1)) fe fa _ acc.length hle3 (by repeat (first | exact hr | apply Rd.ext | apply Rd.alloc | apply Rd.sb | apply Rd.drewN | apply Rd.drew)) (by repeat (first | exact blk_sb _ _ _ _ hg | exact hg | apply blk_ext | apply blk_alloc | apply blk_drewN | apply blk_drew)) (I64_w64 _)).mono ?_; rintro e w' hq; obtain ⟨⟨ox, oy, rfl⟩, hq2⟩ := hq.2 HE.out; clear hq; obtain ⟨zh, zd, rfl⟩ := hq2))
            go_ret2
            refine ⟨by rw [HR.out]; exact fun h => absurd h HE.out, fun _ => ⟨rfl, w64 (a1 + 1), ?_⟩⟩
            rw [HR.out]; first | exact Grw.refl _ | (repeat (first | exact Grw.refl _ | apply Grw.ext | apply Grw.alloc | apply Grw.drewN | apply Grw.drew)); done
          · have herr' : (own1 (tokAt toks (w64 (a1 + 1))) ps acc.length).1 = 0 := by simpa using herr
            have hne3 : acc.length ≠ 3 := fun e => own1_three (tokAt toks (w64 (a1 + 1))) (ps := ps) (by rw [e] at herr'; exact herr')
            have HE := Lib.hid herr'
            have HR := Lib.hid (hR.trans (ownsF_ok toks ps a1 f acc herr'))
            obtain ⟨o1, o2, ho⟩ : ∃ o1 o2, (own1 (tokAt toks (w64 (a1 + 1))) ps acc.length).2 = (o1, o2) := ⟨_, _, rfl⟩
            have HO2 := Lib.hid ho
            have hlt3 : acc.length < 3 := by omega
            clear herr herr' hR ho hne3
            go_wp2_with (first
              | (go_at_call 69; refine (aIs_zero toks ps A PA c pc g B a1 fe fa _ _ (by repeat (first | exact hr | apply Rd.ext | apply Rd.alloc | apply Rd.sb | apply Rd.drewN | apply Rd.drew)) (by repeat (first | exact blk_sb _ _ _ _ hg | exact hg | apply blk_ext | apply blk_alloc | apply blk_drewN | apply blk_drew)) ha1).mono ?_; rintro e w' ⟨rfl, hq⟩; obtain ⟨yh, yd, rfl⟩ := hq; rw [show isW (tokAt toks a1) (⟨#[44]⟩ : ByteArray).data.toList = true from H44.out])
              | (go_at_call 75; refine (aOne_any toks ps A PA c pc g B (w64 (a1 + 1)) fe fa _ acc.length hle3 (by repeat (first | exact hr | apply Rd.ext | apply Rd.alloc | apply Rd.sb | apply Rd.drewN | apply Rd.drew)) (by repeat (first | exact blk_sb _ _ _ _ hg | exact hg | apply blk_ext | apply blk_alloc | apply blk_drewN | apply blk_drew)) (I64_w64 _)).mono ?_; rintro e w' hq; obtain ⟨rfl, hq2⟩ := hq.1 HE.out; clear hq; obtain ⟨zh, zd, rfl⟩ := hq2; rw [HO2.out])
              | (at_builtin
                 refine wpList_append_own _ rfl _ _ 63 rfl w.heap.size 57 i0 _ 2 16 Try.underlying63 hi0 hz0 hz1 hz2 rfl (by decide) (.slice Ao acc.length co) acc.length (acc.flatMap ownC) rfl (((own_ext (own_ext (own_resb hown hg _) yh yd) zh zd).alloc _).alloc _) ⟨zh.size + (yh.size + (xh.size + w.heap.size)) + 1, 0, none⟩ 1 1 [.int .i64 o1, .int .i64 o2] rfl rfl ?c1 ?c2 ?c3 ?c4 ?c5 ?_
                 case c1 => exact news_alloc _ #[_, _] _ _ (by simp [wext_size, sb_size])
                 case c2 => simp [Value.oneCell']
                 case c3 => simp only [maxLen]; omega
                 case c4 => omega
                 case c5 => simp [wext_size, sb_size]; omega
                 intro v' w1 hown1 hgrow _
                 obtain ⟨vh, vd, rfl⟩ : Grw (sb w g 109 #[.slice A toks.length c, .int .i64 (w64 (w64 (a1 + 1) + 1)), .slice PA ps.length pc, .int .i64 (fe), .int .i64 (fa)]) w1 := Grw.grown (by first | exact Grw.refl _ | (repeat (first | exact Grw.refl _ | apply Grw.ext | apply Grw.alloc | apply Grw.drewN | apply Grw.drew)); done) hgrow (fun k hk => by have := hown.lt k hk; rw [sb_size]; omega)))
            obtain ⟨gg, cap, hv, _, _⟩ := hown1.form (by omega)
            go_roundw
            case rel => exact ⟨w64 (w64 (a1 + 1) + 1), f, cap, some ⟨gg, 0, none⟩, acc ++ [(o1, o2)], false, vh, vd, I64_w64 _, rfl, by simp; omega, by simp; omega, by rw [HR.out, HO2.out]; rfl, by rw [hv, List.length_append]; rfl, rfl, by
              rw [hv] at hown1; rw [List.length_append, List.flatMap_append]; exact hown1⟩
            case measure => rw [hv]; simp [slLen]; omega
      · simp only [if_true] at hR
        cases herr : decide ((own1 (tokAt toks (w64 (a1 + 1))) ps acc.length).1 = 0)
        · have herr' : (own1 (tokAt toks (w64 (a1 + 1))) ps acc.length).1 ≠ 0 := by simpa using herr
          have HE := Lib.hid herr'
          have HR := Lib.hid (hR.trans (ownsF_bad toks ps a1 f acc herr'))
          clear herr herr' hR
          go_wp2_with (first
            | (go_at_call 75; refine (aOne_any toks ps A PA c pc g B (w64 (a1 + 1)) fe fa _ acc.length hle3 (by repeat (first | exact hr | apply Rd.ext | apply Rd.alloc | apply Rd.sb | apply Rd.drewN | apply Rd.drew)) (by repeat (first | exact blk_sb _ _ _ _ hg | exact hg | apply blk_ext | apply blk_alloc | apply blk_drewN | apply blk_drew)) (I64_w64 _)).mono ?_; rintro e w' hq; obtain ⟨⟨ox, oy, rfl⟩, hq2⟩ := hq.2 HE.out; clear hq; obtain ⟨zh, zd, rfl⟩ := hq2))
          go_ret2
          refine ⟨by rw [HR.out]; exact fun h => absurd h HE.out, fun _ => ⟨rfl, w64 (a1 + 1), ?_⟩⟩
          rw [HR.out]; first | exact Grw.refl _ | (repeat (first | exact Grw.refl _ | apply Grw.ext | apply Grw.alloc | apply Grw.drewN | apply Grw.drew)); done
        · have herr' : (own1 (tokAt toks (w64 (a1 + 1))) ps acc.length).1 = 0 := by simpa using herr
          have hne3 : acc.length ≠ 3 := fun e => own1_three (tokAt toks (w64 (a1 + 1))) (ps := ps) (by rw [e] at herr'; exact herr')
          have HE := Lib.hid herr'
          have HR := Lib.hid (hR.trans (ownsF_ok toks ps a1 f acc herr'))
          obtain ⟨o1, o2, ho⟩ : ∃ o1 o2, (own1 (tokAt toks (w64 (a1 + 1))) ps acc.length).2 = (o1, o2) := ⟨_, _, rfl⟩
          have HO2 := Lib.hid ho
          have hlt3 : acc.length < 3 := by omega
          clear herr herr' hR ho hne3
          go_wp2_with (first
            | (go_at_call 75; refine (aOne_any toks ps A PA c pc g B (w64 (a1 + 1)) fe fa _ acc.length hle3 (by repeat (first | exact hr | apply Rd.ext | apply Rd.alloc | apply Rd.sb | apply Rd.drewN | apply Rd.drew)) (by repeat (first | exact blk_sb _ _ _ _ hg | exact hg | apply blk_ext | apply blk_alloc | apply blk_drewN | apply blk_drew)) (I64_w64 _)).mono ?_; rintro e w' hq; obtain ⟨rfl, hq2⟩ := hq.1 HE.out; clear hq; obtain ⟨zh, zd, rfl⟩ := hq2; rw [HO2.out])
            | (at_builtin
               refine wpList_append_own _ rfl _ _ 63 rfl w.heap.size 57 i0 _ 2 16 Try.underlying63 hi0 hz0 hz1 hz2 rfl (by decide) (.slice Ao acc.length co) acc.length (acc.flatMap ownC) rfl (((own_ext (own_resb hown hg _) zh zd).alloc _).alloc _) ⟨zh.size + (xh.size + w.heap.size) + 1, 0, none⟩ 1 1 [.int .i64 o1, .int .i64 o2] rfl rfl ?c1 ?c2 ?c3 ?c4 ?c5 ?_
               case c1 => exact news_alloc _ #[_, _] _ _ (by simp [wext_size, sb_size])
               case c2 => simp [Value.oneCell']
               case c3 => simp only [maxLen]; omega
               case c4 => omega
               case c5 => simp [wext_size, sb_size]; omega
               intro v' w1 hown1 hgrow _
               obtain ⟨vh, vd, rfl⟩ : Grw (sb w g 109 #[.slice A toks.length c, .int .i64 (w64 (w64 (a1 + 1) + 1)), .slice PA ps.length pc, .int .i64 (fe), .int .i64 (fa)]) w1 := Grw.grown (by first | exact Grw.refl _ | (repeat (first | exact Grw.refl _ | apply Grw.ext | apply Grw.alloc | apply Grw.drewN | apply Grw.drew)); done) hgrow (fun k hk => by have := hown.lt k hk; rw [sb_size]; omega)))
          obtain ⟨gg, cap, hv, _, _⟩ := hown1.form (by omega)
          go_roundw
          case rel => exact ⟨w64 (w64 (a1 + 1) + 1), f, cap, some ⟨gg, 0, none⟩, acc ++ [(o1, o2)], false, vh, vd, I64_w64 _, rfl, by simp; omega, by simp; omega, by rw [HR.out, HO2.out]; rfl, by rw [hv, List.length_append]; rfl, rfl, by
            rw [hv] at hown1; rw [List.length_append, List.flatMap_append]; exact hown1⟩
          case measure => rw [hv]; simp [slLen]; omega
theorem aOwners_any (hr : Rd toks ps A PA B g w) (hb : w.heap[g]? = some (.cells #[.slice A toks.length c, .int .i64 (at_), .slice PA ps.length pc, .int .i64 (fe), .int .i64 (fa)] 109)) (ha : I64 at_) :
    Calls Try.prog 49 #[.pointer (some ⟨g, 0, none⟩)] w (OwnsPost toks ps A PA c pc g at_ fe fa w) := by
  have := aOwners_sb toks ps A PA c pc g B at_ fe fa w hr ha
  rw [sb_self w g _ _ hb] at this
  exact this
def aheadL (toks : List Tok) (at_ : Int) (nm : Bool) : Bool :=
  (tokAt toks (w64 (at_ + 1))).kind == 1 && (!nm || (tokAt toks (w64 (at_ + 2))).kind == 1 || isW (tokAt toks (w64 (at_ + 2))) [60] || isW (tokAt toks (w64 (at_ + 2))) [116, 104, 105, 115] || isW (tokAt toks (w64 (at_ + 2))) [110, 117, 108, 108])
set_option maxRecDepth 100000 in
set_option maxHeartbeats 4000000 in
theorem aAhead_any (nm : Bool) (hr : Rd toks ps A PA B g w) (hb : w.heap[g]? = some (.cells #[.slice A toks.length c, .int .i64 (at_), .slice PA ps.length pc, .int .i64 (fe), .int .i64 (fa)] 109)) (ha : I64 at_) :
    Calls Try.prog 72 #[.pointer (some ⟨g, 0, none⟩), .bool nm] w fun e w' => e = .returned (.bool (aheadL toks at_ nm)) ∧ Grw w w' := by
  have HB := Lib.hid hb
  clear hb
  by_cases h1 : (tokAt toks (w64 (at_ + 1))).kind = 1
  · have b1 : ((tokAt toks (w64 (at_ + 1))).kind != 1) = false := by simp [h1]
    have HA := Lib.hid (show aheadL toks at_ nm = (!nm || (tokAt toks (w64 (at_ + 2))).kind == 1 || isW (tokAt toks (w64 (at_ + 2))) [60] || isW (tokAt toks (w64 (at_ + 2))) [116, 104, 105, 115] || isW (tokAt toks (w64 (at_ + 2))) [110, 117, 108, 108]) by simp [aheadL, h1])
    clear h1
    cases nm
    · go_enter Try.func72, Try.ntmps72
      go_wp2_with (first
        | (go_at_call 68; refine (aLook_any toks ps A PA c pc g B at_ fe fa _ _ (by repeat (first | exact hr | apply Rd.ext | apply Rd.alloc | apply Rd.sb | apply Rd.drewN | apply Rd.drew)) (by repeat (first | exact blk_sb _ _ _ _ HB.out | exact HB.out | apply blk_ext | apply blk_alloc | apply blk_drewN | apply blk_drew)) ha (by omega) (by omega)).mono ?_; rintro e w' ⟨rfl, hq⟩; obtain ⟨xh, xd, rfl⟩ := hq))
      go_ret
      exact ⟨ret_bool (by rw [HA.out]; rfl), by first | exact Grw.refl _ | (repeat (first | exact Grw.refl _ | apply Grw.ext | apply Grw.alloc | apply Grw.drewN | apply Grw.drew)); done⟩
    · by_cases h2 : (tokAt toks (w64 (at_ + 2))).kind = 1
      · have b2 : ((tokAt toks (w64 (at_ + 2))).kind == 1) = true := by simp [h2]
        go_enter Try.func72, Try.ntmps72
        go_wp2_with (first
          | (go_at_call 68; refine (aLook_any toks ps A PA c pc g B at_ fe fa _ _ (by repeat (first | exact hr | apply Rd.ext | apply Rd.alloc | apply Rd.sb | apply Rd.drewN | apply Rd.drew)) (by repeat (first | exact blk_sb _ _ _ _ HB.out | exact HB.out | apply blk_ext | apply blk_alloc | apply blk_drewN | apply blk_drew)) ha (by omega) (by omega)).mono ?_; rintro e w' ⟨rfl, hq⟩; obtain ⟨xh, xd, rfl⟩ := hq))
        go_ret
        exact ⟨ret_bool (by rw [HA.out, b2]; rfl), by first | exact Grw.refl _ | (repeat (first | exact Grw.refl _ | apply Grw.ext | apply Grw.alloc | apply Grw.drewN | apply Grw.drew)); done⟩
      · have b2 : ((tokAt toks (w64 (at_ + 2))).kind == 1) = false := by simp [h2]
        rw [b2] at HA
        cases h3 : isW (tokAt toks (w64 (at_ + 2))) [60]
        · cases h4 : isW (tokAt toks (w64 (at_ + 2))) [116, 104, 105, 115]
          · cases h5 : isW (tokAt toks (w64 (at_ + 2))) [110, 117, 108, 108]
            all_goals
              rw [h3, h4, h5] at HA
              have H1 := Lib.hid h3
              have H2 := Lib.hid h4
              have H3 := Lib.hid h5
              clear h2 h3 h4 h5
              go_enter Try.func72, Try.ntmps72
              go_wp2_with (first
                | (go_at_call 68; refine (aLook_any toks ps A PA c pc g B at_ fe fa _ _ (by repeat (first | exact hr | apply Rd.ext | apply Rd.alloc | apply Rd.sb | apply Rd.drewN | apply Rd.drew)) (by repeat (first | exact blk_sb _ _ _ _ HB.out | exact HB.out | apply blk_ext | apply blk_alloc | apply blk_drewN | apply blk_drew)) ha (by omega) (by omega)).mono ?_; rintro e w' ⟨rfl, hq⟩; obtain ⟨xh, xd, rfl⟩ := hq)
                | (go_at_call 69; refine (aIs_any toks ps A PA c pc g B at_ fe fa _ _ _ (by repeat (first | exact hr | apply Rd.ext | apply Rd.alloc | apply Rd.sb | apply Rd.drewN | apply Rd.drew)) (by repeat (first | exact blk_sb _ _ _ _ HB.out | exact HB.out | apply blk_ext | apply blk_alloc | apply blk_drewN | apply blk_drew)) ha (by omega) (by omega)).mono ?_; rintro e w' ⟨rfl, hq⟩; obtain ⟨yh, yd, rfl⟩ := hq; first | rw [show isW (tokAt toks (w64 (at_ + 2))) (⟨#[60]⟩ : ByteArray).data.toList = _ from H1.out] | rw [show isW (tokAt toks (w64 (at_ + 2))) (⟨#[116, 104, 105, 115]⟩ : ByteArray).data.toList = _ from H2.out] | rw [show isW (tokAt toks (w64 (at_ + 2))) (⟨#[110, 117, 108, 108]⟩ : ByteArray).data.toList = _ from H3.out]))
              go_ret
              exact ⟨ret_bool (by rw [HA.out]; rfl), by first | exact Grw.refl _ | (repeat (first | exact Grw.refl _ | apply Grw.ext | apply Grw.alloc | apply Grw.drewN | apply Grw.drew)); done⟩
          · rw [h3, h4] at HA
            have H1 := Lib.hid h3
            have H2 := Lib.hid h4
            have H3 := Lib.hid (show isW (tokAt toks (w64 (at_ + 2))) [60] = false from h3)
            clear h2 h3 h4
            go_enter Try.func72, Try.ntmps72
            go_wp2_with (first
              | (go_at_call 68; refine (aLook_any toks ps A PA c pc g B at_ fe fa _ _ (by repeat (first | exact hr | apply Rd.ext | apply Rd.alloc | apply Rd.sb | apply Rd.drewN | apply Rd.drew)) (by repeat (first | exact blk_sb _ _ _ _ HB.out | exact HB.out | apply blk_ext | apply blk_alloc | apply blk_drewN | apply blk_drew)) ha (by omega) (by omega)).mono ?_; rintro e w' ⟨rfl, hq⟩; obtain ⟨xh, xd, rfl⟩ := hq)
              | (go_at_call 69; refine (aIs_any toks ps A PA c pc g B at_ fe fa _ _ _ (by repeat (first | exact hr | apply Rd.ext | apply Rd.alloc | apply Rd.sb | apply Rd.drewN | apply Rd.drew)) (by repeat (first | exact blk_sb _ _ _ _ HB.out | exact HB.out | apply blk_ext | apply blk_alloc | apply blk_drewN | apply blk_drew)) ha (by omega) (by omega)).mono ?_; rintro e w' ⟨rfl, hq⟩; obtain ⟨yh, yd, rfl⟩ := hq; first | rw [show isW (tokAt toks (w64 (at_ + 2))) (⟨#[60]⟩ : ByteArray).data.toList = _ from H1.out] | rw [show isW (tokAt toks (w64 (at_ + 2))) (⟨#[116, 104, 105, 115]⟩ : ByteArray).data.toList = _ from H2.out] | rw [show isW (tokAt toks (w64 (at_ + 2))) (⟨#[110, 117, 108, 108]⟩ : ByteArray).data.toList = _ from H3.out]))
            go_ret
            exact ⟨ret_bool (by rw [HA.out]; rfl), by first | exact Grw.refl _ | (repeat (first | exact Grw.refl _ | apply Grw.ext | apply Grw.alloc | apply Grw.drewN | apply Grw.drew)); done⟩
        · rw [h3] at HA
          have H1 := Lib.hid h3
          have H2 := Lib.hid h3
          have H3 := Lib.hid h3
          clear h2 h3
          go_enter Try.func72, Try.ntmps72
          go_wp2_with (first
            | (go_at_call 68; refine (aLook_any toks ps A PA c pc g B at_ fe fa _ _ (by repeat (first | exact hr | apply Rd.ext | apply Rd.alloc | apply Rd.sb | apply Rd.drewN | apply Rd.drew)) (by repeat (first | exact blk_sb _ _ _ _ HB.out | exact HB.out | apply blk_ext | apply blk_alloc | apply blk_drewN | apply blk_drew)) ha (by omega) (by omega)).mono ?_; rintro e w' ⟨rfl, hq⟩; obtain ⟨xh, xd, rfl⟩ := hq)
            | (go_at_call 69; refine (aIs_any toks ps A PA c pc g B at_ fe fa _ _ _ (by repeat (first | exact hr | apply Rd.ext | apply Rd.alloc | apply Rd.sb | apply Rd.drewN | apply Rd.drew)) (by repeat (first | exact blk_sb _ _ _ _ HB.out | exact HB.out | apply blk_ext | apply blk_alloc | apply blk_drewN | apply blk_drew)) ha (by omega) (by omega)).mono ?_; rintro e w' ⟨rfl, hq⟩; obtain ⟨yh, yd, rfl⟩ := hq; first | rw [show isW (tokAt toks (w64 (at_ + 2))) (⟨#[60]⟩ : ByteArray).data.toList = _ from H1.out] | rw [show isW (tokAt toks (w64 (at_ + 2))) (⟨#[116, 104, 105, 115]⟩ : ByteArray).data.toList = _ from H2.out] | rw [show isW (tokAt toks (w64 (at_ + 2))) (⟨#[110, 117, 108, 108]⟩ : ByteArray).data.toList = _ from H3.out]))
          go_ret
          exact ⟨ret_bool (by rw [HA.out]; rfl), by first | exact Grw.refl _ | (repeat (first | exact Grw.refl _ | apply Grw.ext | apply Grw.alloc | apply Grw.drewN | apply Grw.drew)); done⟩
  · have b1 : ((tokAt toks (w64 (at_ + 1))).kind != 1) = true := by simpa using h1
    have HA := Lib.hid (show aheadL toks at_ nm = false by simp [aheadL, h1])
    clear h1
    go_enter Try.func72, Try.ntmps72
    go_wp2_with (first
      | (go_at_call 68; refine (aLook_any toks ps A PA c pc g B at_ fe fa _ _ (by repeat (first | exact hr | apply Rd.ext | apply Rd.alloc | apply Rd.sb | apply Rd.drewN | apply Rd.drew)) (by repeat (first | exact blk_sb _ _ _ _ HB.out | exact HB.out | apply blk_ext | apply blk_alloc | apply blk_drewN | apply blk_drew)) ha (by omega) (by omega)).mono ?_; rintro e w' ⟨rfl, hq⟩; obtain ⟨xh, xd, rfl⟩ := hq))
    go_ret
    exact ⟨ret_bool (by rw [HA.out]), by first | exact Grw.refl _ | (repeat (first | exact Grw.refl _ | apply Grw.ext | apply Grw.alloc | apply Grw.drewN | apply Grw.drew)); done⟩
end
end Go.Proofs.YtnindeoemfgkeaaRRRR
