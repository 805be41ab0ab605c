/- Contracts of Names and Roots, the program's and the document's: they answer alike. Conditions: fewer than a million objects, of fewer than a million fields each. -/
import Derived.Test.YtgjpbhgobjlneaaPath1
import Derived.RangeFuncBox
namespace Go.Proofs.Ytgjpbhgobjlneaa
open Go.RowKit
/-- A slice of these ints is handed back, the call's own. -/
def IntsPost (xs : List Int) (w : World) (e : Ending) (w' : World) : Prop :=
  ∃ A c, e = .returned (.slice A xs.length c) ∧ Grw w w' ∧ w'.ownsRow w.heap.size 3 1 (.slice A xs.length c) xs.length (xs.map (Value.int .i64))
theorem pickF_snoc (l : List Cl) {f : List (Bool × Int)} {k : Nat} {v : Bool × Int} (h : f[k]? = some v) : pickF l (f.take (k + 1)) = pickF l (f.take k) ++ if v.1 && liveL l v.2 then [v.2] else [] := by
  obtain ⟨h1, h2⟩ := List.getElem?_eq_some_iff.1 h
  unfold pickF
  rw [List.take_succ_eq_append_getElem h1, h2, List.filter_append, List.map_append]
  congr 1
  cases hv : (v.1 && liveL l v.2) <;> simp [List.filter_cons, hv]
theorem pickF_len (l : List Cl) (f : List (Bool × Int)) (k : Nat) : (pickF l (f.take k)).length ≤ k := by
  unfold pickF
  rw [List.length_map]
  exact Nat.le_trans (List.length_filter_le _ _) (by rw [List.length_take]; omega)
theorem own_beyond {W : World} {base size k : Nat} {e : TypeId} {v : Value} {xs : List Value} (hr : W.ownsRow base e size v k xs) : ∀ j, v.ownBlock = some j → base ≤ j := by
  rcases hr.2 with ⟨rfl, _⟩ | ⟨g, cap, cur, rfl, hb, _⟩
  · intro j h; simp [Value.ownBlock] at h
  · intro j h
    obtain rfl : g = j := by simpa [Value.ownBlock] using h
    exact hb
theorem own_alloc {W : World} {base size k : Nat} {e : TypeId} {v : Value} {xs : List Value} (hr : W.ownsRow base e size v k xs) (o : Obj) : (W.alloc o).ownsRow base e size v k xs := hr.alloc o
section
variable (l : List Cl) (A : Option Addr) (c B : Nat) (w : World)
set_option maxRecDepth 100000 in
set_option maxHeartbeats 1000000 in
theorem pNames_any (a : Int) (h : Hp w B A l) (hn : l.length ≤ 1000000) : Calls Try.prog 18 #[.slice A l.length c, .int .i64 a] w (IntsPost (namesL l a) w) := by
  cases hlv : liveL l a
  · have HN := Lib.hid (show namesL l a = [] by
      unfold namesL
      unfold liveL at hlv
      split
      · rename_i x hx; rw [hx] at hlv; simp at hlv; rw [hlv]; rfl
      · rfl)
    have HL := Lib.hid hlv
    clear hlv
    go_enter Try.func18, Try.ntmps18
    go_wp2_with (go_at_call 36; refine (live_any l A c B _ a h hn).mono ?_; rw [HL.out]; rintro e w' ⟨rfl, rfl⟩)
    go_ret
    exact ⟨none, 0, by rw [HN.out]; rfl, Grw.refl _, by rw [HN.out]; exact World.ownsRow_nil _ _ _ _⟩
  · obtain ⟨k0, rfl, hk⟩ : ∃ k : Nat, a = (k : Int) + 1 ∧ k < l.length := by
      have := liveL_range hlv
      exact ⟨(a - 1).toNat, by omega, by omega⟩
    obtain ⟨x, hx⟩ : ∃ o, l[k0]? = some o := ⟨_, List.getElem?_eq_getElem hk⟩
    have HN := Lib.hid (show namesL l ((k0 : Int) + 1) = pickF l x.fl by
      unfold namesL
      rw [clAt_nat, hx]
      rw [liveL_nat l k0 x hx] at hlv
      simp at hlv
      simp [hlv])
    have HL := Lib.hid hlv
    obtain ⟨hsf, hfl⟩ := h.2 x (List.mem_of_getElem? hx)
    have H := Lib.hid h
    obtain ⟨b, o, rfl, _, hbl, hc⟩ := h.1.at_ hx
    have e5 := hc 5 _ rfl
    obtain ⟨cls, o0, o1, o2, o3, fA, fc, fl, dd⟩ := x
    dsimp only at HN hsf hfl e5
    have HS := Lib.hid hsf
    have f3 : (k0 : Int) < (l.length : Int) := by omega
    obtain ⟨i0, hi, hz0, hz1, hz2⟩ := info_parts infoI
    clear hc hx hlv h hsf
    go_enter Try.func18, Try.ntmps18
    go_wp2_with (go_at_call 36; refine (live_any l _ c B _ _ H.out hn).mono ?_; rw [HL.out]; rintro e w' ⟨rfl, rfl⟩)
    go_loopw [5, 7, 19] (fun out _ i wr => ∃ (k : Nat) (OA : Option Addr) (oc : Nat), k ≤ fl.length ∧ i = .int .i64 k ∧ out = .slice OA (pickF l (fl.take k)).length oc ∧ wr.ownsRow w.heap.size 3 1 (.slice OA (pickF l (fl.take k)).length oc) (pickF l (fl.take k)).length ((pickF l (fl.take k)).map (Value.int .i64)) ∧ Grw w wr) (fun _ _ i _ => fl.length - (intOf i).toNat)
    case atStart => exact ⟨0, none, 0, Nat.zero_le _, rfl, rfl, World.ownsRow_nil _ _ _ _, Grw.refl _⟩
    case round =>
      obtain ⟨k, OA, oc, hkl, rfl, rfl, hown, hg⟩ := hrel
      by_cases hlt : k < fl.length
      · obtain ⟨⟨r, v⟩, hv⟩ : ∃ o, fl[k]? = some o := ⟨_, List.getElem?_eq_getElem hlt⟩
        obtain ⟨b2, o2', rfl, _, hbl2, hc2⟩ := (HS.out.grw hg).at_ hv
        have d0 := hc2 0 _ rfl
        have d1 := hc2 1 _ rfl
        simp only [Nat.add_zero] at d0
        have g3 : (k : Int) < (fl.length : Int) := by omega
        have HP := Lib.hid (pickF_snoc l hv)
        have hpl := pickF_len l fl k
        obtain ⟨acc, hacc⟩ : ∃ acc, pickF l (fl.take k) = acc := ⟨_, rfl⟩
        rw [hacc] at hown hpl HP ⊢
        dsimp only at HP
        have HO := Lib.hid hown
        have HG := Lib.hid hg
        have hszw := hg.below.size
        clear hc2 hv hown hg hacc
        cases r
        · go_wp2
          go_roundw
          case rel => first | exact ⟨k + 1, OA, oc, by omega, by go_num, by rw [HP.out]; simp, by rw [HP.out]; simpa using own_alloc HO.out _, (by repeat (first | exact HG.out | apply Grw.ext | apply Grw.alloc | apply Grw.drewN | apply Grw.drew))⟩ | ((repeat apply Exists.intro); exact ⟨⟨k + 1, OA, oc, by omega, by go_num, by rw [HP.out]; simp, by rw [HP.out]; simpa using own_alloc HO.out _, (by repeat (first | exact HG.out | apply Grw.ext | apply Grw.alloc | apply Grw.drewN | apply Grw.drew))⟩, rfl⟩)
          case measure => simp [intOf]; omega
        · cases hl2 : liveL l v
          · have HL2 := Lib.hid hl2
            clear hl2
            go_wp2_with (go_at_call 36; refine (live_any l _ c B _ v (H.out.grw (by repeat (first | exact HG.out | apply Grw.ext | apply Grw.alloc | apply Grw.drewN | apply Grw.drew))) hn).mono ?_; rw [HL2.out]; rintro e w' ⟨rfl, rfl⟩)
            go_roundw
            case rel => first | exact ⟨k + 1, OA, oc, by omega, by go_num, by rw [HP.out, HL2.out]; simp, by rw [HP.out, HL2.out]; simpa using own_alloc HO.out _, (by repeat (first | exact HG.out | apply Grw.ext | apply Grw.alloc | apply Grw.drewN | apply Grw.drew))⟩ | ((repeat apply Exists.intro); exact ⟨⟨k + 1, OA, oc, by omega, by go_num, by rw [HP.out, HL2.out]; simp, by rw [HP.out, HL2.out]; simpa using own_alloc HO.out _, (by repeat (first | exact HG.out | apply Grw.ext | apply Grw.alloc | apply Grw.drewN | apply Grw.drew))⟩, rfl⟩)
            case measure => simp [intOf]; omega
          · have HL2 := Lib.hid hl2
            clear hl2
            go_wp2_with (first
              | (go_at_call 36; refine (live_any l _ c B _ v (H.out.grw (by repeat (first | exact HG.out | apply Grw.ext | apply Grw.alloc | apply Grw.drewN | apply Grw.drew))) hn).mono ?_; rw [HL2.out]; rintro e w' ⟨rfl, rfl⟩)
              | (at_builtin
                 refine wpList_append_own _ rfl _ _ 39 rfl (w.heap.size) 3 i0 _ 1 8 Try.underlying39 hi hz0 hz1 hz2 rfl (by decide) (.slice OA acc.length oc) (acc.length) (acc.map (Value.int .i64)) rfl ((own_alloc (own_alloc HO.out _) _)) ⟨wr.heap.size + 1, 0, none⟩ 1 1 [.int .i64 v] rfl rfl ?c1 ?c2 ?c3 ?c4 ?c5 ?_
                 case c1 => exact news_alloc _ #[_] _ _ (by simp [wext_size])
                 case c2 => simp [Value.oneCell']
                 case c3 => unfold maxLen; omega
                 case c4 => omega
                 case c5 => simp [wext_size]; omega
                 intro v' w1 hown1 hgrow _
                 (have HN1 := Lib.hid hown1; have HGr := Lib.hid (show Grw w w1 by exact Grw.grown (row := (Value.slice OA acc.length oc).ownBlock) (by repeat (first | exact HG.out | apply Grw.ext | apply Grw.alloc | apply Grw.drewN | apply Grw.drew)) hgrow (own_beyond HO.out)); obtain ⟨g', cap', rfl⟩ := ownsRow_succ HN1.out; clear hown1 hgrow)))
            go_roundw
            case rel => first | exact ⟨k + 1, some ⟨g', 0, none⟩, cap', by omega, by go_num, by rw [HP.out, HL2.out]; simp, by rw [HP.out, HL2.out]; simpa using HN1.out, HGr.out⟩ | ((repeat apply Exists.intro); exact ⟨⟨k + 1, some ⟨g', 0, none⟩, cap', by omega, by go_num, by rw [HP.out, HL2.out]; simp, by rw [HP.out, HL2.out]; simpa using HN1.out, HGr.out⟩, rfl⟩)
            case measure => simp [intOf]; omega
      · obtain rfl : k = fl.length := by omega
        have HT := Lib.hid (List.take_of_length_le (Nat.le_refl fl.length))
        rw [HT.out] at hown ⊢
        have HO := Lib.hid hown
        have HG := Lib.hid hg
        clear hown hg
        go_wp2
        go_ret
        exact ⟨_, _, by rw [HN.out]; rfl, HG.out, by rw [HN.out]; exact HO.out⟩
end
section
variable (l : List Cl) (A : Option Addr) (c B : Nat) (w : World)
set_option maxRecDepth 100000 in
set_option maxHeartbeats 1000000 in
theorem r45Names_any (a : Int) (h : Hp w B A l) (hn : l.length ≤ 1000000) : Calls Try.prog 19 #[.slice A l.length c, .int .i64 a] w (IntsPost (namesL l a) w) := by
  cases hlv : liveL l a
  · have HN := Lib.hid (show namesL l a = [] by
      unfold namesL
      unfold liveL at hlv
      split
      · rename_i x hx; rw [hx] at hlv; simp at hlv; rw [hlv]; rfl
      · rfl)
    have HL := Lib.hid hlv
    clear hlv
    go_enter Try.func19, Try.ntmps19
    go_wp2_with (go_at_call 37; refine (r45live_any l A c B _ a h hn).mono ?_; rw [HL.out]; rintro e w' ⟨rfl, rfl⟩)
    go_ret
    exact ⟨none, 0, by rw [HN.out]; rfl, Grw.refl _, by rw [HN.out]; exact World.ownsRow_nil _ _ _ _⟩
  · obtain ⟨k0, rfl, hk⟩ : ∃ k : Nat, a = (k : Int) + 1 ∧ k < l.length := by
      have := liveL_range hlv
      exact ⟨(a - 1).toNat, by omega, by omega⟩
    obtain ⟨x, hx⟩ : ∃ o, l[k0]? = some o := ⟨_, List.getElem?_eq_getElem hk⟩
    have HN := Lib.hid (show namesL l ((k0 : Int) + 1) = pickF l x.fl by
      unfold namesL
      rw [clAt_nat, hx]
      rw [liveL_nat l k0 x hx] at hlv
      simp at hlv
      simp [hlv])
    have HL := Lib.hid hlv
    obtain ⟨hsf, hfl⟩ := h.2 x (List.mem_of_getElem? hx)
    have H := Lib.hid h
    obtain ⟨b, o, rfl, _, hbl, hc⟩ := h.1.at_ hx
    have e5 := hc 5 _ rfl
    obtain ⟨cls, o0, o1, o2, o3, fA, fc, fl, dd⟩ := x
    dsimp only at HN hsf hfl e5
    have HS := Lib.hid hsf
    have f3 : (k0 : Int) < (l.length : Int) := by omega
    obtain ⟨i0, hi, hz0, hz1, hz2⟩ := info_parts infoI
    clear hc hx hlv h hsf
    go_enter Try.func19, Try.ntmps19
    go_wp2_with (go_at_call 37; refine (r45live_any l _ c B _ _ H.out hn).mono ?_; rw [HL.out]; rintro e w' ⟨rfl, rfl⟩)
    go_loopw [5, 7] (fun out i wr => ∃ (k : Nat) (OA : Option Addr) (oc : Nat), k ≤ fl.length ∧ i = .int .i64 k ∧ out = .slice OA (pickF l (fl.take k)).length oc ∧ wr.ownsRow w.heap.size 3 1 (.slice OA (pickF l (fl.take k)).length oc) (pickF l (fl.take k)).length ((pickF l (fl.take k)).map (Value.int .i64)) ∧ Grw w wr) (fun _ i _ => fl.length - (intOf i).toNat)
    case atStart => exact ⟨0, none, 0, Nat.zero_le _, rfl, rfl, World.ownsRow_nil _ _ _ _, Grw.refl _⟩
    case round =>
      obtain ⟨k, OA, oc, hkl, rfl, rfl, hown, hg⟩ := hrel
      by_cases hlt : k < fl.length
      · obtain ⟨⟨r, v⟩, hv⟩ : ∃ o, fl[k]? = some o := ⟨_, List.getElem?_eq_getElem hlt⟩
        obtain ⟨b2, o2', rfl, _, hbl2, hc2⟩ := (HS.out.grw hg).at_ hv
        have d0 := hc2 0 _ rfl
        have d1 := hc2 1 _ rfl
        simp only [Nat.add_zero] at d0
        have g3 : (k : Int) < (fl.length : Int) := by omega
        have HP := Lib.hid (pickF_snoc l hv)
        have hpl := pickF_len l fl k
        obtain ⟨acc, hacc⟩ : ∃ acc, pickF l (fl.take k) = acc := ⟨_, rfl⟩
        rw [hacc] at hown hpl HP ⊢
        dsimp only at HP
        have HO := Lib.hid hown
        have HG := Lib.hid hg
        have hszw := hg.below.size
        clear hc2 hv hown hg hacc
        cases r
        · go_wp2
          go_roundw
          case rel => first | exact ⟨k + 1, OA, oc, by omega, by go_num, by rw [HP.out]; simp, by rw [HP.out]; simpa using HO.out, (by repeat (first | exact HG.out | apply Grw.ext | apply Grw.alloc | apply Grw.drewN | apply Grw.drew))⟩ | ((repeat apply Exists.intro); exact ⟨⟨k + 1, OA, oc, by omega, by go_num, by rw [HP.out]; simp, by rw [HP.out]; simpa using HO.out, (by repeat (first | exact HG.out | apply Grw.ext | apply Grw.alloc | apply Grw.drewN | apply Grw.drew))⟩, rfl⟩)
          case measure => simp [intOf]; omega
        · cases hl2 : liveL l v
          · have HL2 := Lib.hid hl2
            clear hl2
            go_wp2_with (go_at_call 37; refine (r45live_any l _ c B _ v (H.out.grw (by repeat (first | exact HG.out | apply Grw.ext | apply Grw.alloc | apply Grw.drewN | apply Grw.drew))) hn).mono ?_; rw [HL2.out]; rintro e w' ⟨rfl, rfl⟩)
            go_roundw
            case rel => first | exact ⟨k + 1, OA, oc, by omega, by go_num, by rw [HP.out, HL2.out]; simp, by rw [HP.out, HL2.out]; simpa using HO.out, (by repeat (first | exact HG.out | apply Grw.ext | apply Grw.alloc | apply Grw.drewN | apply Grw.drew))⟩ | ((repeat apply Exists.intro); exact ⟨⟨k + 1, OA, oc, by omega, by go_num, by rw [HP.out, HL2.out]; simp, by rw [HP.out, HL2.out]; simpa using HO.out, (by repeat (first | exact HG.out | apply Grw.ext | apply Grw.alloc | apply Grw.drewN | apply Grw.drew))⟩, rfl⟩)
            case measure => simp [intOf]; omega
          · have HL2 := Lib.hid hl2
            clear hl2
            go_wp2_with (first
              | (go_at_call 37; refine (r45live_any l _ c B _ v (H.out.grw (by repeat (first | exact HG.out | apply Grw.ext | apply Grw.alloc | apply Grw.drewN | apply Grw.drew))) hn).mono ?_; rw [HL2.out]; rintro e w' ⟨rfl, rfl⟩)
              | (at_builtin
                 refine wpList_append_own _ rfl _ _ 39 rfl (w.heap.size) 3 i0 _ 1 8 Try.underlying39 hi hz0 hz1 hz2 rfl (by decide) (.slice OA acc.length oc) (acc.length) (acc.map (Value.int .i64)) rfl ((own_alloc HO.out _)) ⟨wr.heap.size, 0, none⟩ 1 1 [.int .i64 v] rfl rfl ?c1 ?c2 ?c3 ?c4 ?c5 ?_
                 case c1 => exact news_alloc _ #[_] _ _ (by simp [wext_size])
                 case c2 => simp [Value.oneCell']
                 case c3 => unfold maxLen; omega
                 case c4 => omega
                 case c5 => simp [wext_size]; omega
                 intro v' w1 hown1 hgrow _
                 (have HN1 := Lib.hid hown1; have HGr := Lib.hid (show Grw w w1 by exact Grw.grown (row := (Value.slice OA acc.length oc).ownBlock) (by repeat (first | exact HG.out | apply Grw.ext | apply Grw.alloc | apply Grw.drewN | apply Grw.drew)) hgrow (own_beyond HO.out)); obtain ⟨g', cap', rfl⟩ := ownsRow_succ HN1.out; clear hown1 hgrow)))
            go_roundw
            case rel => first | exact ⟨k + 1, some ⟨g', 0, none⟩, cap', by omega, by go_num, by rw [HP.out, HL2.out]; simp, by rw [HP.out, HL2.out]; simpa using HN1.out, HGr.out⟩ | ((repeat apply Exists.intro); exact ⟨⟨k + 1, some ⟨g', 0, none⟩, cap', by omega, by go_num, by rw [HP.out, HL2.out]; simp, by rw [HP.out, HL2.out]; simpa using HN1.out, HGr.out⟩, rfl⟩)
            case measure => simp [intOf]; omega
      · obtain rfl : k = fl.length := by omega
        have HT := Lib.hid (List.take_of_length_le (Nat.le_refl fl.length))
        rw [HT.out] at hown ⊢
        have HO := Lib.hid hown
        have HG := Lib.hid hg
        clear hown hg
        go_wp2
        go_ret
        exact ⟨_, _, by rw [HN.out]; rfl, HG.out, by rw [HN.out]; exact HO.out⟩
end
end Go.Proofs.Ytgjpbhgobjlneaa
