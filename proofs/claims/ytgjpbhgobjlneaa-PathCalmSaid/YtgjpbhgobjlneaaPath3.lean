/- Contracts of Roots (the program's and the document's) and of the searches for a number in a list. Conditions: fewer than a million objects. -/
import Derived.Test.YtgjpbhgobjlneaaPath2
namespace Go.Proofs.Ytgjpbhgobjlneaa
open Go.RowKit
theorem take_snocG {α : Type} {l : List α} {m : Nat} {p : α} (h : l[m]? = some p) : l.take (m + 1) = l.take m ++ [p] := by
  obtain ⟨h1, h2⟩ := List.getElem?_eq_some_iff.1 h
  rw [List.take_succ_eq_append_getElem h1, h2]
theorem rootsTo_snoc {l : List Cl} {k : Nat} {x : Cl} (h : l[k]? = some x) : rootsTo 0 (l.take (k + 1)) = rootsTo 0 (l.take k) ++ if rootB x then [((k : Nat) : Int) + 1] else [] := by
  have hk : k < l.length := (List.getElem?_eq_some_iff.1 h).1
  rw [take_snocG h, rootsTo_append, List.length_take, Nat.min_eq_left (by omega)]
  simp [rootsTo]
theorem rootsTo_len0 : ∀ (l : List Cl) (k : Nat), (rootsTo k l).length ≤ l.length
  | [], k => by simp [rootsTo]
  | c :: r, k => by
    have := rootsTo_len0 r (k + 1)
    rw [rootsTo, List.length_append]
    split <;> simp <;> omega
theorem rootsTo_len (l : List Cl) (k : Nat) : (rootsTo 0 (l.take k)).length ≤ k := by
  have := rootsTo_len0 (l.take k) 0
  rw [List.length_take] at this
  omega
def intC (x : Int) : List Value := [.int .i64 x]
section
variable (l : List Cl) (A : Option Addr) (c B : Nat) (w : World)
set_option maxRecDepth 100000 in
set_option maxHeartbeats 1000000 in
theorem pRoots_any (h : Hp w B A l) (hn : l.length ≤ 1000000) : Calls Try.prog 20 #[.slice A l.length c] w (IntsPost (rootsL l) w) := by
  obtain ⟨i0, hi, hz0, hz1, hz2⟩ := info_parts infoI
  have H := Lib.hid h
  clear h
  go_enter Try.func20, Try.ntmps20
  go_wp2
  go_loopw [3, 4, 5, 8] (fun out _ _ i wr => ∃ (k : Nat) (OA : Option Addr) (oc : Nat), k ≤ l.length ∧ i = .int .i64 k ∧ out = .slice OA (rootsTo 0 (l.take k)).length oc ∧ wr.ownsRow w.heap.size 3 1 (.slice OA (rootsTo 0 (l.take k)).length oc) (rootsTo 0 (l.take k)).length ((rootsTo 0 (l.take k)).map (Value.int .i64)) ∧ Grw w wr) (fun _ _ _ i _ => l.length - (intOf i).toNat)
  case atStart => exact ⟨0, none, 0, Nat.zero_le _, rfl, rfl, World.ownsRow_nil _ _ _ _, Grw.refl _⟩
  case round =>
    obtain ⟨k, OA, oc, hkl, rfl, rfl, hown, hg⟩ := hrel
    by_cases hlt : k < l.length
    · obtain ⟨x, hx⟩ : ∃ o, l[k]? = some o := ⟨_, List.getElem?_eq_getElem hlt⟩
      obtain ⟨b, o, rfl, _, hbl, hc⟩ := (H.out.grw hg).1.at_ hx
      have d0 := hc 0 _ rfl
      have d1 := hc 1 _ rfl
      have d2 := hc 2 _ rfl
      have d3 := hc 3 _ rfl
      have d4 := hc 4 _ rfl
      have d5 := hc 5 _ rfl
      have d6 := hc 6 _ rfl
      simp only [Nat.add_zero] at d0
      have g3 : (k : Int) < (l.length : Int) := by omega
      have HP := Lib.hid (rootsTo_snoc hx)
      have hpl := rootsTo_len l k
      obtain ⟨acc, hacc⟩ : ∃ acc, rootsTo 0 (l.take k) = acc := ⟨_, rfl⟩
      rw [hacc] at hown hpl HP ⊢
      have HO := Lib.hid hown
      have HG := Lib.hid hg
      have hszw := hg.below.size
      clear hc hx hown hg hacc
      cases hd : x.dead
      · by_cases h0 : x.o0 = 0
        · have e0 : ((x.o0 : Int) == 0) = true := by simp [h0]
          have HB := Lib.hid (show rootB x = true by unfold rootB; rw [hd, e0]; rfl)
          rw [hd] at d6
          clear hd h0
          go_wp2_with (first
            | (at_builtin
               refine wpList_append_own _ rfl _ _ 39 rfl (w.heap.size) 3 i0 _ 1 8 Try.underlying39 hi hz0 hz1 hz2 rfl (by decide) (.slice OA acc.length oc) (acc.length) (acc.map (Value.int .i64)) rfl ((own_alloc (own_alloc HO.out _) _)) ⟨wr.heap.size + 1, 0, none⟩ 1 1 [.int .i64 ((k : Int) + 1)] rfl rfl ?c1 ?c2 ?c3 ?c4 ?c5 ?_
               case c1 => exact news_alloc _ #[_] _ _ (by simp [wext_size])
               case c2 => simp [Value.oneCell']
               case c3 => unfold maxLen; omega
               case c4 => omega
               case c5 => simp [wext_size]; omega
               intro v' w1 hown1 hgrow _
               (have HN1 := Lib.hid hown1; have HGr := Lib.hid (show Grw w w1 by exact Grw.grown (row := (Value.slice OA acc.length oc).ownBlock) (by repeat (first | exact HG.out | apply Grw.ext | apply Grw.alloc | apply Grw.drewN | apply Grw.drew)) hgrow (own_beyond HO.out)); obtain ⟨g', cap', rfl⟩ := ownsRow_succ HN1.out; clear hown1 hgrow)))
          go_roundw
          case rel => first | exact ⟨k + 1, some ⟨g', 0, none⟩, cap', by omega, by go_num, by rw [HP.out, HB.out]; simp, by rw [HP.out, HB.out]; simpa using HN1.out, HGr.out⟩ | ((repeat apply Exists.intro); exact ⟨⟨k + 1, some ⟨g', 0, none⟩, cap', by omega, by go_num, by rw [HP.out, HB.out]; simp, by rw [HP.out, HB.out]; simpa using HN1.out, HGr.out⟩, rfl⟩)
          case measure => simp [intOf]; omega
        · have e0 : ((x.o0 : Int) == 0) = false := by simpa using h0
          have HB := Lib.hid (show rootB x = false by unfold rootB; rw [hd, e0]; rfl)
          rw [hd] at d6
          clear hd h0
          go_wp2
          go_roundw
          case rel => first | exact ⟨k + 1, OA, oc, by omega, by go_num, by rw [HP.out, HB.out]; simp, by rw [HP.out, HB.out]; simpa using own_alloc HO.out _, (by repeat (first | exact HG.out | apply Grw.ext | apply Grw.alloc | apply Grw.drewN | apply Grw.drew))⟩ | ((repeat apply Exists.intro); exact ⟨⟨k + 1, OA, oc, by omega, by go_num, by rw [HP.out, HB.out]; simp, by rw [HP.out, HB.out]; simpa using own_alloc HO.out _, (by repeat (first | exact HG.out | apply Grw.ext | apply Grw.alloc | apply Grw.drewN | apply Grw.drew))⟩, rfl⟩)
          case measure => simp [intOf]; omega
      · have HB := Lib.hid (show rootB x = false by unfold rootB; rw [hd]; simp)
        rw [hd] at d6
        clear hd
        cases hx0 : ((x.o0 : Int) == 0)
        all_goals
          go_wp2
          go_roundw
          case rel => first | exact ⟨k + 1, OA, oc, by omega, by go_num, by rw [HP.out, HB.out]; simp, by rw [HP.out, HB.out]; simpa using own_alloc HO.out _, (by repeat (first | exact HG.out | apply Grw.ext | apply Grw.alloc | apply Grw.drewN | apply Grw.drew))⟩ | ((repeat apply Exists.intro); exact ⟨⟨k + 1, OA, oc, by omega, by go_num, by rw [HP.out, HB.out]; simp, by rw [HP.out, HB.out]; simpa using own_alloc HO.out _, (by repeat (first | exact HG.out | apply Grw.ext | apply Grw.alloc | apply Grw.drewN | apply Grw.drew))⟩, rfl⟩)
          case measure => simp [intOf]; omega
    · obtain rfl : k = l.length := by omega
      have HT := Lib.hid (List.take_of_length_le (Nat.le_refl l.length))
      rw [HT.out] at hown ⊢
      have HO := Lib.hid hown
      have HG := Lib.hid hg
      clear hown hg
      go_wp2
      go_ret
      exact ⟨_, _, rfl, HG.out, HO.out⟩
set_option maxRecDepth 100000 in
set_option maxHeartbeats 1000000 in
theorem r45Roots_any (h : Hp w B A l) (hn : l.length ≤ 1000000) : Calls Try.prog 21 #[.slice A l.length c] w (IntsPost (rootsL l) w) := by
  obtain ⟨i0, hi, hz0, hz1, hz2⟩ := info_parts infoI
  have H := Lib.hid h
  clear h
  go_enter Try.func21, Try.ntmps21
  go_wp2
  go_loopw [3, 4] (fun out i wr => ∃ (k : Nat) (OA : Option Addr) (oc : Nat), k ≤ l.length ∧ i = .int .i64 k ∧ out = .slice OA (rootsTo 0 (l.take k)).length oc ∧ wr.ownsRow w.heap.size 3 1 (.slice OA (rootsTo 0 (l.take k)).length oc) (rootsTo 0 (l.take k)).length ((rootsTo 0 (l.take k)).map (Value.int .i64)) ∧ Grw w wr) (fun _ i _ => l.length - (intOf i).toNat)
  case atStart => exact ⟨0, none, 0, Nat.zero_le _, rfl, rfl, World.ownsRow_nil _ _ _ _, Grw.refl _⟩
  case round =>
    obtain ⟨k, OA, oc, hkl, rfl, rfl, hown, hg⟩ := hrel
    by_cases hlt : k < l.length
    · obtain ⟨x, hx⟩ : ∃ o, l[k]? = some o := ⟨_, List.getElem?_eq_getElem hlt⟩
      obtain ⟨b, o, rfl, _, hbl, hc⟩ := (H.out.grw hg).1.at_ hx
      have d0 := hc 0 _ rfl
      have d1 := hc 1 _ rfl
      have d2 := hc 2 _ rfl
      have d3 := hc 3 _ rfl
      have d4 := hc 4 _ rfl
      have d5 := hc 5 _ rfl
      have d6 := hc 6 _ rfl
      simp only [Nat.add_zero] at d0
      have g3 : (k : Int) < (l.length : Int) := by omega
      have HP := Lib.hid (rootsTo_snoc hx)
      have hpl := rootsTo_len l k
      obtain ⟨acc, hacc⟩ : ∃ acc, rootsTo 0 (l.take k) = acc := ⟨_, rfl⟩
      rw [hacc] at hown hpl HP ⊢
      have HO := Lib.hid hown
      have HG := Lib.hid hg
      have hszw := hg.below.size
      clear hc hx hown hg hacc
      cases hd : x.dead
      · by_cases h0 : x.o0 = 0
        · have e0 : ((x.o0 : Int) == 0) = true := by simp [h0]
          have HB := Lib.hid (show rootB x = true by unfold rootB; rw [hd, e0]; rfl)
          rw [hd] at d6
          clear hd h0
          go_wp2_with (first
            | (at_builtin
               refine wpList_append_own _ rfl _ _ 39 rfl (w.heap.size) 3 i0 _ 1 8 Try.underlying39 hi hz0 hz1 hz2 rfl (by decide) (.slice OA acc.length oc) (acc.length) (acc.map (Value.int .i64)) rfl ((own_alloc HO.out _)) ⟨wr.heap.size, 0, none⟩ 1 1 [.int .i64 ((k : Int) + 1)] rfl rfl ?c1 ?c2 ?c3 ?c4 ?c5 ?_
               case c1 => exact news_alloc _ #[_] _ _ (by simp [wext_size])
               case c2 => simp [Value.oneCell']
               case c3 => unfold maxLen; omega
               case c4 => omega
               case c5 => simp [wext_size]; omega
               intro v' w1 hown1 hgrow _
               (have HN1 := Lib.hid hown1; have HGr := Lib.hid (show Grw w w1 by exact Grw.grown (row := (Value.slice OA acc.length oc).ownBlock) (by repeat (first | exact HG.out | apply Grw.ext | apply Grw.alloc | apply Grw.drewN | apply Grw.drew)) hgrow (own_beyond HO.out)); obtain ⟨g', cap', rfl⟩ := ownsRow_succ HN1.out; clear hown1 hgrow)))
          go_roundw
          case rel => first | exact ⟨k + 1, some ⟨g', 0, none⟩, cap', by omega, by go_num, by rw [HP.out, HB.out]; simp, by rw [HP.out, HB.out]; simpa using HN1.out, HGr.out⟩ | ((repeat apply Exists.intro); exact ⟨⟨k + 1, some ⟨g', 0, none⟩, cap', by omega, by go_num, by rw [HP.out, HB.out]; simp, by rw [HP.out, HB.out]; simpa using HN1.out, HGr.out⟩, rfl⟩)
          case measure => simp [intOf]; omega
        · have e0 : ((x.o0 : Int) == 0) = false := by simpa using h0
          have HB := Lib.hid (show rootB x = false by unfold rootB; rw [hd, e0]; rfl)
          rw [hd] at d6
          clear hd h0
          go_wp2
          go_roundw
          case rel => first | exact ⟨k + 1, OA, oc, by omega, by go_num, by rw [HP.out, HB.out]; simp, by rw [HP.out, HB.out]; simpa using HO.out, (by repeat (first | exact HG.out | apply Grw.ext | apply Grw.alloc | apply Grw.drewN | apply Grw.drew))⟩ | ((repeat apply Exists.intro); exact ⟨⟨k + 1, OA, oc, by omega, by go_num, by rw [HP.out, HB.out]; simp, by rw [HP.out, HB.out]; simpa using HO.out, (by repeat (first | exact HG.out | apply Grw.ext | apply Grw.alloc | apply Grw.drewN | apply Grw.drew))⟩, rfl⟩)
          case measure => simp [intOf]; omega
      · have HB := Lib.hid (show rootB x = false by unfold rootB; rw [hd]; simp)
        rw [hd] at d6
        clear hd
        cases hx0 : ((x.o0 : Int) == 0)
        all_goals
          go_wp2
          go_roundw
          case rel => first | exact ⟨k + 1, OA, oc, by omega, by go_num, by rw [HP.out, HB.out]; simp, by rw [HP.out, HB.out]; simpa using HO.out, (by repeat (first | exact HG.out | apply Grw.ext | apply Grw.alloc | apply Grw.drewN | apply Grw.drew))⟩ | ((repeat apply Exists.intro); exact ⟨⟨k + 1, OA, oc, by omega, by go_num, by rw [HP.out, HB.out]; simp, by rw [HP.out, HB.out]; simpa using HO.out, (by repeat (first | exact HG.out | apply Grw.ext | apply Grw.alloc | apply Grw.drewN | apply Grw.drew))⟩, rfl⟩)
          case measure => simp [intOf]; omega
    · obtain rfl : k = l.length := by omega
      have HT := Lib.hid (List.take_of_length_le (Nat.le_refl l.length))
      rw [HT.out] at hown ⊢
      have HO := Lib.hid hown
      have HG := Lib.hid hg
      clear hown hg
      go_wp2
      go_ret
      exact ⟨_, _, rfl, HG.out, HO.out⟩
set_option maxHeartbeats 1000000 in
theorem r45has_any (xs : List Int) (XA : Option Addr) (xc XB : Nat) (a : Int) (h : SlB intC 1 w XB XA xs) (hn : xs.length ≤ 1000000) : Calls Try.prog 41 #[.slice XA xs.length xc, .int .i64 a] w fun e w' => e = .returned (.bool (xs.any fun x => x == a)) ∧ w = w' := by
  have H := Lib.hid h
  clear h
  go_enter Try.func41, Try.ntmps41
  go_wp2
  go_loop [5] (fun i => ∃ k : Nat, k ≤ xs.length ∧ i = .int .i64 k ∧ (xs.take k).any (fun x => x == a) = false) (fun i => xs.length - (intOf i).toNat)
  case atStart => exact ⟨0, Nat.zero_le _, rfl, rfl⟩
  case round =>
    obtain ⟨k, hk, rfl, hno⟩ := hrel
    by_cases hlt : k < xs.length
    · obtain ⟨x, hx⟩ : ∃ o, xs[k]? = some o := ⟨_, List.getElem?_eq_getElem hlt⟩
      obtain ⟨b, o, rfl, _, hbl, hc⟩ := H.out.at_ hx
      have d0 := hc 0 _ rfl
      simp only [Nat.add_zero, Nat.mul_one] at d0
      have g3 : (k : Int) < (xs.length : Int) := by omega
      have HT := Lib.hid (take_snocG hx)
      have HX := Lib.hid hx
      have HNO := Lib.hid hno
      clear hc hx hno
      cases hxa : ((x : Int) == a)
      · have HXA := Lib.hid hxa
        go_wp2
        go_round
        case rel => first | exact ⟨k + 1, by omega, by go_num, by rw [HT.out, List.any_append, HNO.out]; simp [HXA.out]⟩ | ((repeat apply Exists.intro); exact ⟨⟨k + 1, by omega, by go_num, by rw [HT.out, List.any_append, HNO.out]; simp [HXA.out]⟩, rfl⟩)
        case measure => simp [intOf]; omega
      · have HXA : Hid (xs.any (fun x => x == a) = true) := Lib.hid ((List.any_eq_true (p := fun y => y == a)).2 ⟨x, List.mem_of_getElem? HX.out, hxa⟩)
        go_wp2
        go_ret
        exact ⟨by rw [HXA.out]; rfl, rfl⟩
    · obtain rfl : k = xs.length := by omega
      rw [List.take_of_length_le (Nat.le_refl _)] at hno
      have HNO := Lib.hid hno
      clear hno
      go_wp2
      go_ret
      exact ⟨by rw [HNO.out]; rfl, rfl⟩
set_option maxHeartbeats 1000000 in
theorem l45has_any (xs : List Int) (XA : Option Addr) (xc XB : Nat) (a : Int) (h : SlB intC 1 w XB XA xs) (hn : xs.length ≤ 1000000) : Calls Try.prog 28 #[.slice XA xs.length xc, .int .i64 a] w fun e w' => e = .returned (.bool (xs.any fun x => x == a)) ∧ w = w' := by
  have H := Lib.hid h
  clear h
  go_enter Try.func28, Try.ntmps28
  go_wp2
  go_loop [5] (fun i => ∃ k : Nat, k ≤ xs.length ∧ i = .int .i64 k ∧ (xs.take k).any (fun x => x == a) = false) (fun i => xs.length - (intOf i).toNat)
  case atStart => exact ⟨0, Nat.zero_le _, rfl, rfl⟩
  case round =>
    obtain ⟨k, hk, rfl, hno⟩ := hrel
    by_cases hlt : k < xs.length
    · obtain ⟨x, hx⟩ : ∃ o, xs[k]? = some o := ⟨_, List.getElem?_eq_getElem hlt⟩
      obtain ⟨b, o, rfl, _, hbl, hc⟩ := H.out.at_ hx
      have d0 := hc 0 _ rfl
      simp only [Nat.add_zero, Nat.mul_one] at d0
      have g3 : (k : Int) < (xs.length : Int) := by omega
      have HT := Lib.hid (take_snocG hx)
      have HX := Lib.hid hx
      have HNO := Lib.hid hno
      clear hc hx hno
      cases hxa : ((x : Int) == a)
      · have HXA := Lib.hid hxa
        go_wp2
        go_round
        case rel => first | exact ⟨k + 1, by omega, by go_num, by rw [HT.out, List.any_append, HNO.out]; simp [HXA.out]⟩ | ((repeat apply Exists.intro); exact ⟨⟨k + 1, by omega, by go_num, by rw [HT.out, List.any_append, HNO.out]; simp [HXA.out]⟩, rfl⟩)
        case measure => simp [intOf]; omega
      · have HXA : Hid (xs.any (fun x => x == a) = true) := Lib.hid ((List.any_eq_true (p := fun y => y == a)).2 ⟨x, List.mem_of_getElem? HX.out, hxa⟩)
        go_wp2
        go_ret
        exact ⟨by rw [HXA.out]; rfl, rfl⟩
    · obtain rfl : k = xs.length := by omega
      rw [List.take_of_length_le (Nat.le_refl _)] at hno
      have HNO := Lib.hid hno
      clear hno
      go_wp2
      go_ret
      exact ⟨by rw [HNO.out]; rfl, rfl⟩
end
end Go.Proofs.Ytgjpbhgobjlneaa
