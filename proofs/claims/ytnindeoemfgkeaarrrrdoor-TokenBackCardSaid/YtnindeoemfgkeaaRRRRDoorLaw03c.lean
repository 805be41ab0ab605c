/- The law TokenBack: the tokens of the text of any text's tokens are the same, and each token stands where it says. -/
import Derived.Test.YtnindeoemfgkeaaRRRRDoorBack1
import Derived.Test.YtnindeoemfgkeaaRRRRDoorLaw03a
namespace Go.Proofs.YtnindeoemfgkeaaRRRRDoor
open Go.RowKit
theorem oneL_take {L : List UInt8} {k : Nat} {tx : List UInt8} (h : oneL L = (k, tx)) (hk : k ≠ 0) : L.take tx.length = tx := by
  have hne : L ≠ [] := by intro e; rw [e] at h; simp [oneL] at h; omega
  rcases kinds_one L hne with ⟨_, h0⟩ | ⟨_, _, _, h1, h2⟩
  · rw [h] at h0; exact absurd h0 hk
  · rw [h] at h1 h2
    dsimp only at h1 h2
    rw [h2, ← h1]
theorem seg_step {L : List UInt8} {a : Nat} {x : Tok} {r : List Tok} (h : Seg L a (x :: r)) :
    ∃ p : Nat, x.pos = p ∧ p = a + sk false (L.drop a) ∧ p + x.text.length ≤ L.length ∧ (L.drop p).take x.text.length = x.text ∧ (r ≠ [] → Seg L (p + x.text.length) r) := by
  cases h with
  | last _ ha h => exact ⟨L.length, rfl, h.symm, by simp, by simp, fun h => absurd rfl h⟩
  | more _ k tx p l ha hp ho hk hb hl =>
    have hle := oneL_le (L.drop p)
    have hpos := oneL_pos (L.drop p) (by rw [ho]; exact hk)
    rw [ho, List.length_drop] at hle
    rw [ho] at hpos
    dsimp only at hle hpos
    exact ⟨p, rfl, hp, by dsimp only; omega, oneL_take ho hk, fun _ => hl⟩
theorem seg_at {L : List UInt8} {a k : Nat} {x : Tok} {l : List Tok} (hx : l[k]? = some x) (h : Seg L a (l.drop k)) :
    ∃ p : Nat, x.pos = p ∧ p = a + sk false (L.drop a) ∧ p + x.text.length ≤ L.length ∧ (L.drop p).take x.text.length = x.text ∧ (k + 1 < l.length → Seg L (p + x.text.length) (l.drop (k + 1))) := by
  obtain ⟨h1, rfl⟩ := List.getElem?_eq_some_iff.1 hx
  rw [List.drop_eq_getElem_cons h1] at h
  obtain ⟨p, e1, e2, e3, e4, e5⟩ := seg_step h
  exact ⟨p, e1, e2, e3, e4, fun hk => e5 (fun e => by have := congrArg List.length e; simp at this; omega)⟩
theorem ext_list (s : ByteArray) (a b : Nat) : (s.extract a b).data.toList = (s.data.toList.drop a).take (b - a) := by
  rw [ByteArray.data_extract, Array.toList_extract]
set_option maxHeartbeats 4000000 in
set_option maxRecDepth 100000 in
theorem law03Back_bad (s : ByteArray) (w : World) (e p : Nat) (hw : Wd w) (hs : s.size ≤ 400) (hT : tokOf s.data.toList = ([], e, p)) (he : e = 1 ∨ e = 2) (hp : p < s.size) :
    Calls Tryd.prog 4 #[.string s] w fun e w' => e = .returned (.bool true) ∧ Grw w w' := by
  have HT := Lib.hid hT
  have f1 : (s.size : Int) ≤ 400 := by omega
  have f2 : ((e : Int) != 0) = true := by rcases he with rfl | rfl <;> rfl
  have f3 : (p : Int) < (s.size : Int) := by omega
  have hs2 : s.size ≤ 9223372036854775807 := by omega
  clear hT he
  go_enter Tryd.func4, Tryd.ntmps4
  go_wp2_with fail
  refine (tOf_any s _ hw hs2).mono ?_
  unfold OfPost
  rw [HT.out]
  rintro e w' ⟨A, c, rfl, ⟨xh, xd, rfl⟩, hown⟩
  clear hown
  dsimp only
  go_wp2_with (go_at_call 6; refine (awake03 _ (by repeat (first | exact hw | apply Wd.ext | apply Wd.alloc | apply Wd.drewN | apply Wd.drew))).mono ?_; rintro e w1 ⟨rfl, hq⟩)
  go_ret
  exact ⟨rfl, Grw.trans (by repeat (first | exact Grw.refl _ | apply Grw.ext | apply Grw.alloc | apply Grw.drewN | apply Grw.drew)) hq⟩
set_option maxHeartbeats 4000000 in
set_option maxRecDepth 100000 in
theorem law03Back_far (s : ByteArray) (w : World) (hw : Wd w) (hs : 400 < s.size) (hs2 : s.size ≤ 9223372036854775807) :
    Calls Tryd.prog 4 #[.string s] w fun e w' => e = .returned (.bool true) ∧ Grw w w' := by
  have f1 : (400 : Int) < (s.size : Int) := by omega
  go_enter Tryd.func4, Tryd.ntmps4
  go_wp2_with (go_at_call 6; refine (awake03 _ hw).mono ?_; rintro e w1 ⟨rfl, hq⟩)
  go_ret
  exact ⟨rfl, hq⟩
set_option maxHeartbeats 8000000 in
set_option maxRecDepth 100000 in
theorem law03Back_ok (s : ByteArray) (w : World) (l : List Tok) (hw : Wd w) (hs : s.size ≤ 400) (hT : tokOf s.data.toList = (l, 0, 0)) (hS : Seg s.data.toList 0 l) :
    Calls Tryd.prog 4 #[.string s] w fun e w' => e = .returned (.bool true) ∧ Grw w w' := by
  have hsz := size_eq s
  have HT := Lib.hid hT
  obtain ⟨hl1, hl2, hl3, hl4⟩ := seg_len hS
  obtain ⟨m, hm, hsame⟩ := seg_first hS
  have htl := text_size hS
  have HM := Lib.hid (show tokOf (bs (textL l)).data.toList = (m, 0, 0) from seg_tokOf (L := textL l) (by omega) hm)
  obtain ⟨hm1, _⟩ := seg_len hm
  have HSM := Lib.hid hsame
  have HL4 := Lib.hid (show ∀ x ∈ l, x.text.length ≤ 100000 from fun x hx => by have := hl4 x hx; omega)
  have HSG := Lib.hid hS
  have hn : l.length ≤ 1000000 := by omega
  have hmn : m.length ≤ 1000000 := by omega
  have hpos : 0 < l.length := List.length_pos_iff.2 hl2
  have hlast : l[l.length - 1]? = some ⟨0, [], (s.size : Nat)⟩ := by rw [← List.getLast?_eq_getElem?, hl3, hsz]
  have hbt : (bs (textL l)).size ≤ 9223372036854775807 := by rw [bs_size]; omega
  have f1 : (s.size : Int) ≤ 400 := by omega
  have hs2 : s.size ≤ 9223372036854775807 := by omega
  have HZ := Lib.hid hsz
  have HLA := Lib.hid hlast
  clear hT hS hl1 hl2 hl3 hl4 hm hsame htl hm1 hsz hlast
  go_enter Tryd.func4, Tryd.ntmps4
  go_wp2_with fail
  refine (tOf_any s _ hw hs2).mono ?_
  unfold OfPost
  rw [HT.out]
  rintro e w' ⟨A, c, rfl, ⟨xh, xd, rfl⟩, hown⟩
  have hl := (Sl.of_own Tok.len (by decide) hown).toB (Nat.le_refl _)
  clear hown
  obtain ⟨B, hB⟩ : ∃ B, B = (wext w xh xd).heap.size := ⟨_, rfl⟩
  rw [← hB] at hl
  dsimp only at hl ⊢
  go_wp2_with fail
  refine (tText_any l A c B _ (by repeat (first | exact hl | apply SlB.alloc | apply SlB.ext | apply SlB.drewN)) (by rw [hB]; simp) hn HL4.out).mono ?_
  rintro e w' ⟨rfl, yh, yd, rfl⟩
  go_wp2_with fail
  refine (tOf_any (bs (textL l)) _ (by repeat (first | exact hw | apply Wd.ext | apply Wd.alloc | apply Wd.drewN | apply Wd.drew)) hbt).mono ?_
  unfold OfPost
  rw [HM.out]
  rintro e w' ⟨A2, c2, rfl, ⟨zh, zd, rfl⟩, hown⟩
  have hl2 := (Sl.of_own Tok.len (by decide) hown).toB (Nat.le_refl _)
  clear hown
  dsimp only at hl2 ⊢
  obtain ⟨bl, ol, hA, _, hbl, hc⟩ := hl.at_ HLA.out
  subst hA
  have HL := Lib.hid hl
  have HL2 := Lib.hid hl2
  clear hc hl hl2 hbl
  obtain ⟨N, hN⟩ : ∃ N, l.length = N + 1 := ⟨l.length - 1, by omega⟩
  have HN := Lib.hid hN
  rw [hN]
  have hN1 : (N : Int) ≤ 1000000 := by omega
  have hN2 : N ≤ 1000000 := by omega
  clear hN hpos
  go_wp2_with fail
  have hsm := fun w' h1 h2 => tSame_any l m (some ⟨bl, ol, none⟩) A2 c c2 (wext (wext ((wext w xh xd).alloc (Obj.cells #[.int .i64 0, .int .i64 0] 26)) yh yd) zh zd).heap.size w' h1 h2 hn hmn
  rw [HSM.out, HN.out] at hsm
  refine (hsm _ (SlB.upT (by repeat (first | exact HL.out | apply SlB.alloc | apply SlB.ext | apply SlB.drewN)) (by rw [hB]; simp only [wext_size, World.size_alloc]; omega)) (by repeat (first | exact HL2.out | apply SlB.alloc | apply SlB.ext | apply SlB.drewN))).mono ?_
  clear hsm
  rintro e w1 ⟨rfl, hq⟩
  have hl3 := SlB.grw (SlB.upT (by repeat (first | exact HL.out | apply SlB.alloc | apply SlB.ext | apply SlB.drewN)) (Nat.le_refl B)) hq
  have hg3 : Grw w w1 := Grw.trans (by repeat (first | exact Grw.refl _ | apply Grw.ext | apply Grw.alloc | apply Grw.drewN | apply Grw.drew)) hq
  have hw3 : Wd w1 := hw.grw hg3
  obtain ⟨b3, o3, hA, _, hbl, hc⟩ := hl3.at_ HLA.out
  injection hA with hA
  injection hA with hA1 hA2
  subst hA1
  subst hA2
  have e0 := hc 0 _ rfl
  have e1 := hc 1 _ rfl
  have e2 := hc 2 _ rfl
  simp only [Nat.add_zero, HN.out, Nat.add_sub_cancel] at e0 e1 e2
  have HL3 := Lib.hid hl3
  have HG3 := Lib.hid hg3
  clear hc hl3 hg3 hq
  go_wp2_with fail
  clear e0 e1 e2
  go_loopw [7, 8] (fun at_ i wr => ∃ k a : Nat, k ≤ N + 1 ∧ i = .int .i64 k ∧ at_ = .int .i64 a ∧ (k < N + 1 → Seg s.data.toList a (l.drop k)) ∧ SlB Tok.cells 3 wr B (some ⟨bl, ol, none⟩) l ∧ Grw w wr) (fun _ i _ => N + 1 - (intOf i).toNat)
  case atStart => exact ⟨0, 0, Nat.zero_le _, rfl, rfl, fun _ => HSG.out, (by repeat (first | exact HL3.out | apply SlB.alloc | apply SlB.ext | apply SlB.drewN)), (by repeat (first | exact HG3.out | apply Grw.ext | apply Grw.alloc | apply Grw.drewN | apply Grw.drew))⟩
  case round =>
    obtain ⟨k, a, hk, rfl, rfl, hsg, hb, hg⟩ := hrel
    by_cases hlt : k < N + 1
    · obtain ⟨x, hx⟩ : ∃ o, l[k]? = some o := ⟨_, List.getElem?_eq_getElem (by have := HN.out; omega)⟩
      obtain ⟨p, hp1, hp2, hp3, hp4, hp5⟩ := seg_at hx (hsg hlt)
      obtain ⟨bk, ok, hA, _, hbk, hc⟩ := hb.at_ hx
      injection hA with hA
      injection hA with hA1 hA2
      subst hA1
      subst hA2
      have e0 := hc 0 _ rfl
      have e1 := hc 1 _ rfl
      have e2 := hc 2 _ rfl
      rw [hp1] at e2
      simp only [Nat.add_zero] at e0
      have hskl := sk_le (s.data.toList.drop a) false
      rw [List.length_drop, ← HZ.out] at hskl
      rw [← HZ.out] at hp3
      have hpa : p - a = sk false (s.data.toList.drop a) := by omega
      have HG5 := Lib.hid (show k + 1 < N + 1 → Seg s.data.toList (p + x.text.length) (l.drop (k + 1)) from fun h => hp5 (by rw [HN.out]; exact h))
      have hE : (s.extract p (p + x.text.length)).toList = x.text := by rw [toList_eq_data, ext_list, Nat.add_sub_cancel_left, hp4]
      have hgap : tokOf (s.extract a p).data.toList = ([⟨0, [], (p - a : Nat)⟩], 0, 0) := by
        rw [ext_list, hpa]
        exact gap_tok (by rw [← HZ.out]; omega)
      have HGP := Lib.hid hgap
      have hgs : (s.extract a p).size ≤ 9223372036854775807 := by rw [size_eq, ext_list, List.length_take]; omega
      have d1 : decide (p < a) = false := by simp; omega
      have d2 : decide (s.size < p) = false := by simp; omega
      have d3 : decide ((s.size : Int) - (p : Int) < (x.text.length : Int)) = false := by simp; omega
      have q1 : (a : Int) ≤ (p : Int) := by omega
      have q2 : (p : Int) ≤ (s.size : Int) := by omega
      have q3 : (x.text.length : Int) ≤ (s.size : Int) - (p : Int) := by omega
      have q4 : (k : Int) < (N : Int) + 1 := by omega
      have q5 : (p : Int) + (x.text.length : Int) ≤ (s.size : Int) := by omega
      have q6 : p + x.text.length ≤ s.size := by omega
      have HB := Lib.hid hb
      have HG := Lib.hid hg
      clear hb hg hc hp1 hp2 hp4 hp5 hsg hgap hpa hskl hx
      go_wp2
      go_quiet (fail)
      go_wp2_with fail
      refine (tOf_any (s.extract a p) _ (by repeat (first | exact hw.grw HG.out | apply Wd.ext | apply Wd.alloc | apply Wd.drewN | apply Wd.drew)) hgs).mono ?_
      unfold OfPost
      rw [HGP.out]
      rintro e w' ⟨A5, c5, rfl, ⟨uh, ud, rfl⟩, hown⟩
      clear hown
      dsimp only
      go_wp2
      go_roundw
      case rel => first | exact ⟨k + 1, p + x.text.length, by omega, by go_num, by go_num, HG5.out, (by repeat (first | exact HB.out | apply SlB.alloc | apply SlB.ext | apply SlB.drewN)), (by repeat (first | exact HG.out | apply Grw.ext | apply Grw.alloc | apply Grw.drewN | apply Grw.drew))⟩ | ((repeat apply Exists.intro); exact ⟨⟨k + 1, p + x.text.length, by omega, by go_num, by go_num, HG5.out, (by repeat (first | exact HB.out | apply SlB.alloc | apply SlB.ext | apply SlB.drewN)), (by repeat (first | exact HG.out | apply Grw.ext | apply Grw.alloc | apply Grw.drewN | apply Grw.drew))⟩, rfl⟩)
      case measure => simp [intOf]; omega
    · obtain rfl : k = N + 1 := by omega
      clear hsg hb
      go_wp2_with (go_at_call 6; refine (awake03 _ (hw.grw hg)).mono ?_; rintro e w' ⟨rfl, hq⟩)
      go_ret
      exact ⟨rfl, hg.trans hq⟩
end Go.Proofs.YtnindeoemfgkeaaRRRRDoor
