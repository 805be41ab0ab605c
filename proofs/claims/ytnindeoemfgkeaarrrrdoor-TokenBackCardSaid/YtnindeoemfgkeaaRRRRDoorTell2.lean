/- Contracts of layer 3 (token and the document's answer): Text: they answer alike. -/
import Derived.Test.YtnindeoemfgkeaaRRRRDoorTell1
import Derived.Test.YtnindeoemfgkeaaRRRRDoorShelfB
import Derived.Lib.Join
namespace Go.Proofs.YtnindeoemfgkeaaRRRRDoor
open Go.RowKit
def textF : Bool → List UInt8 → List Tok → List UInt8
  | _, acc, [] => acc
  | first, acc, t :: l => if t.kind = 0 then textF first acc l else textF false ((if first then acc else acc ++ [32]) ++ t.text) l
/-- The texts of the tokens that are not the end. -/
def txts : List Tok → List (List UInt8)
  | [] => []
  | t :: l => if t.kind = 0 then txts l else t.text :: txts l
def textL (l : List Tok) : List UInt8 := textF true [] l
theorem txts_at {l : List Tok} {k : Nat} {x : Tok} (hx : l[k]? = some x) : txts (l.drop k) = if x.kind = 0 then txts (l.drop (k + 1)) else x.text :: txts (l.drop (k + 1)) := by
  obtain ⟨h1, rfl⟩ := List.getElem?_eq_some_iff.1 hx
  rw [List.drop_eq_getElem_cons h1, txts]
theorem txts_len : ∀ l : List Tok, (txts l).length ≤ l.length
  | [] => Nat.le_refl _
  | t :: l => by
    have := txts_len l
    rw [txts]; split <;> simp <;> omega
theorem textF_len (M : Nat) : ∀ (l : List Tok) (first : Bool) (acc : List UInt8), (∀ x ∈ l, x.text.length ≤ M) → (textF first acc l).length ≤ acc.length + l.length * (M + 1)
  | [], _, acc, _ => by simp [textF]
  | t :: l, first, acc, h => by
    have ht := h t (by simp)
    rw [textF, List.length_cons, Nat.add_mul]
    split
    · have := textF_len M l first acc (fun x hx => h x (by simp [hx])); omega
    · have := textF_len M l false ((if first then acc else acc ++ [32]) ++ t.text) (fun x hx => h x (by simp [hx]))
      cases first <;> simp at this ⊢ <;> omega
theorem textF_at {l : List Tok} {k : Nat} {x : Tok} (hx : l[k]? = some x) (first : Bool) (acc : List UInt8) :
    textF first acc (l.drop k) = if x.kind = 0 then textF first acc (l.drop (k + 1)) else textF false ((if first then acc else acc ++ [32]) ++ x.text) (l.drop (k + 1)) := by
  obtain ⟨h1, rfl⟩ := List.getElem?_eq_some_iff.1 hx
  rw [List.drop_eq_getElem_cons h1, textF]
section
variable (l : List Tok) (A : Option Addr) (c B M : Nat) (w : World)
set_option maxRecDepth 100000 in
set_option maxHeartbeats 2000000 in
theorem r03Text_any (h : SlB Tok.cells 3 w B A l) (hn : l.length ≤ 1000000) (hm : ∀ x ∈ l, x.text.length ≤ 100000) :
    Calls Tryd.prog 11 #[.slice A l.length c] w fun e w' => e = .returned (.string (bs (textL l))) ∧ Grw w w' := by
  go_enter Tryd.func11, Tryd.ntmps11
  go_wp2
  go_loopw [3, 4, 5] (fun s f i wr => ∃ (k : Nat) (acc : List UInt8) (first : Bool), k ≤ l.length ∧ i = .int .i64 k ∧ s = .string (bs acc) ∧ f = .bool first ∧ acc.length ≤ k * 100001 ∧ SlB Tok.cells 3 wr B A l ∧ textL l = textF first acc (l.drop k) ∧ Grw w wr) (fun _ _ i _ => l.length - (intOf i).toNat)
  case atStart => exact ⟨0, [], true, Nat.zero_le _, rfl, rfl, rfl, Nat.zero_le _, (by repeat (first | exact h | apply SlB.alloc | apply SlB.ext | apply SlB.drewN)), rfl, by first | exact Grw.refl _ | (repeat (first | exact Grw.refl _ | apply Grw.ext | apply Grw.alloc | apply Grw.drewN | apply Grw.drew)); done⟩
  case round =>
    obtain ⟨k, acc, first, hk, rfl, rfl, rfl, ha, hb1, hs, hg⟩ := hrel
    by_cases hlt : k < l.length
    · obtain ⟨x, hx⟩ : ∃ o, l[k]? = some o := ⟨_, List.getElem?_eq_getElem hlt⟩
      have HS := Lib.hid (hs.trans (textF_at hx first acc))
      have hxm := hm x (List.mem_of_getElem? hx)
      obtain ⟨b1, ob, rfl, _, hbl, hc⟩ := hb1.at_ hx
      have e0 := hc 0 _ rfl
      have e1 := hc 1 _ rfl
      simp only [Nat.add_zero] at e0
      have f3 : (k : Int) < (l.length : Int) := by omega
      have HG := Lib.hid hg
      have HB1 := Lib.hid hb1
      clear hc hg hb1 hx hs h hm
      by_cases hk0 : x.kind = 0
      · have hq : ((x.kind : Int) == 0) = true := by simp [hk0]
        rw [if_pos hk0] at HS
        clear hk0
        go_wp2
        go_roundw
        case rel => first | exact ⟨k + 1, acc, first, by omega, by go_num, rfl, rfl, Nat.le_trans ha (Nat.mul_le_mul_right _ (Nat.le_succ k)), (by repeat (first | exact HB1.out | apply SlB.alloc | apply SlB.ext | apply SlB.drewN)), HS.out, (by repeat (first | exact HG.out | apply Grw.ext | apply Grw.alloc | apply Grw.drewN | apply Grw.drew))⟩ | ((repeat apply Exists.intro); exact ⟨⟨k + 1, acc, first, by omega, by go_num, rfl, rfl, Nat.le_trans ha (Nat.mul_le_mul_right _ (Nat.le_succ k)), (by repeat (first | exact HB1.out | apply SlB.alloc | apply SlB.ext | apply SlB.drewN)), HS.out, (by repeat (first | exact HG.out | apply Grw.ext | apply Grw.alloc | apply Grw.drewN | apply Grw.drew))⟩, rfl⟩)
        case measure => simp [intOf]; omega
      · have hq : ((x.kind : Int) == 0) = false := by simp [hk0]
        rw [if_neg hk0] at HS
        clear hk0
        cases first
        · go_wp2
          go_roundw
          case rel => first | exact ⟨k + 1, acc ++ [32] ++ x.text, false, by omega, by go_num, by rfl, rfl, by simp; omega, (by repeat (first | exact HB1.out | apply SlB.alloc | apply SlB.ext | apply SlB.drewN)), HS.out, (by repeat (first | exact HG.out | apply Grw.ext | apply Grw.alloc | apply Grw.drewN | apply Grw.drew))⟩ | ((repeat apply Exists.intro); exact ⟨⟨k + 1, acc ++ [32] ++ x.text, false, by omega, by go_num, by rfl, rfl, by simp; omega, (by repeat (first | exact HB1.out | apply SlB.alloc | apply SlB.ext | apply SlB.drewN)), HS.out, (by repeat (first | exact HG.out | apply Grw.ext | apply Grw.alloc | apply Grw.drewN | apply Grw.drew))⟩, rfl⟩)
          case measure => simp [intOf]; omega
        · go_wp2
          go_roundw
          case rel => first | exact ⟨k + 1, acc ++ x.text, false, by omega, by go_num, by rfl, rfl, by simp; omega, (by repeat (first | exact HB1.out | apply SlB.alloc | apply SlB.ext | apply SlB.drewN)), HS.out, (by repeat (first | exact HG.out | apply Grw.ext | apply Grw.alloc | apply Grw.drewN | apply Grw.drew))⟩ | ((repeat apply Exists.intro); exact ⟨⟨k + 1, acc ++ x.text, false, by omega, by go_num, by rfl, rfl, by simp; omega, (by repeat (first | exact HB1.out | apply SlB.alloc | apply SlB.ext | apply SlB.drewN)), HS.out, (by repeat (first | exact HG.out | apply Grw.ext | apply Grw.alloc | apply Grw.drewN | apply Grw.drew))⟩, rfl⟩)
          case measure => simp [intOf]; omega
    · obtain rfl : k = l.length := by omega
      have HS := Lib.hid (show textL l = acc by rw [hs, List.drop_eq_nil_of_le (Nat.le_refl _)]; rfl)
      clear hb1 hs h hm
      go_wp2
      go_ret
      exact ⟨by rw [HS.out]; rfl, hg⟩
theorem info_Str : (Tryd.prog.info? 9).map (fun i => (i.zero, i.size, i.bytes)) = some (some (.string ⟨#[]⟩), 1, 16) := by kernel_rfl
theorem textF_join : ∀ (l : List Tok) (first : Bool) (acc : List UInt8), textF first acc l = acc ++ (if first then Lib.join (txts l) [32] else Lib.joinTail [32] (txts l))
  | [], first, acc => by cases first <;> simp [textF, txts, Lib.join_nil, Lib.joinTail]
  | t :: l, first, acc => by
    rw [textF, txts]
    split
    · exact textF_join l first acc
    · rw [textF_join l false]
      cases first
      · simp [Lib.joinTail]
      · simp [Lib.join_cons, Lib.joinTail]
theorem textL_join (l : List Tok) : textL l = Lib.join (txts l) [32] := by rw [textL, textF_join]; simp
theorem SlB.grown {α : Type} {enc : α → List Value} {sz B : Nat} {w w' : World} {A : Option Addr} {xs : List α} {row : Option Nat} (h : SlB enc sz w B A xs) (hg : w.grownBy w' row) (hr : ∀ k, row = some k → B ≤ k) : SlB enc sz w' B A xs :=
  h.keep fun b hb hl => ⟨hg.block b hl (fun e => by have := hr b e.symm; omega), Nat.lt_of_lt_of_le hl hg.size⟩
theorem own_cap {w : World} {base : Nat} {e : TypeId} {size n c : Nat} {A : Option Addr} {xs : List Value} (h : w.ownsRow base e size (.slice A n c) n xs) : n ≤ c := by
  rcases h.2 with ⟨hv, hn⟩ | ⟨g, cap, cur, hv, _, _, hn, _⟩
  · omega
  · injection hv with h1 h2 h3; omega
def strV (s : List UInt8) : Value := .string (bs s)
set_option maxRecDepth 100000 in
set_option maxHeartbeats 2000000 in
theorem tText_any (h : SlB Tok.cells 3 w B A l) (hB : B ≤ w.heap.size) (hn : l.length ≤ 1000000) (hm : ∀ x ∈ l, x.text.length ≤ 100000) :
    Calls Tryd.prog 9 #[.slice A l.length c] w fun e w' => e = .returned (.string (bs (textL l))) ∧ Grw w w' := by
  obtain ⟨i0, hi0, hz0, hz1, hz2⟩ := info_parts info_Str
  have hT := textL_join l
  have hTl := textF_len 100000 l true [] hm
  go_enter Tryd.func9, Tryd.ntmps9
  go_wp2
  go_loopw [3, 8] (fun s i wr => ∃ (k c1 : Nat) (A1 : Option Addr) (acc : List (List UInt8)), k ≤ l.length ∧ i = .int .i64 k ∧ s = .slice A1 acc.length c1 ∧ wr.ownsRow w.heap.size 9 1 (.slice A1 acc.length c1) acc.length (acc.map strV) ∧ acc.length ≤ k ∧ SlB Tok.cells 3 wr B A l ∧ txts l = acc ++ txts (l.drop k) ∧ Grw w wr) (fun _ i _ => l.length - (intOf i).toNat)
  case atStart => exact ⟨0, 0, none, [], Nat.zero_le _, rfl, rfl, World.ownsRow_nil _ _ _ _, Nat.zero_le _, (by repeat (first | exact h | apply SlB.alloc | apply SlB.ext | apply SlB.drewN)), rfl, by first | exact Grw.refl _ | (repeat (first | exact Grw.refl _ | apply Grw.ext | apply Grw.alloc | apply Grw.drewN | apply Grw.drew)); done⟩
  case round =>
    obtain ⟨k, c1, A1, acc, hk, rfl, rfl, hown, ha, hb1, hs, hg⟩ := hrel
    by_cases hlt : k < l.length
    · obtain ⟨x, hx⟩ : ∃ o, l[k]? = some o := ⟨_, List.getElem?_eq_getElem hlt⟩
      have HS := Lib.hid (hs.trans (congrArg (acc ++ ·) (txts_at hx)))
      obtain ⟨b1, ob, rfl, _, hbl, hc⟩ := hb1.at_ hx
      have e0 := hc 0 _ rfl
      have e1 := hc 1 _ rfl
      have e2 := hc 2 _ rfl
      simp only [Nat.add_zero] at e0
      have f3 : (k : Int) < (l.length : Int) := by omega
      have HG := Lib.hid hg
      have HB1 := Lib.hid hb1
      have HT := Lib.hid hT
      have hws := hg.below.size
      clear hc hg hb1 hx hs h hm hT hTl
      by_cases hk0 : x.kind = 0
      · have hq : ((x.kind : Int) != 0) = false := by simp [hk0]
        have HS2 := Lib.hid (show txts l = acc ++ txts (l.drop (k + 1)) by have := HS.out; rw [if_pos hk0] at this; exact this)
        clear hk0
        go_wp2
        go_roundw
        case rel => first | exact ⟨k + 1, c1, A1, acc, by omega, by go_num, rfl, hown.alloc _, by omega, (by repeat (first | exact HB1.out | apply SlB.alloc | apply SlB.ext | apply SlB.drewN)), HS2.out, (by repeat (first | exact HG.out | apply Grw.ext | apply Grw.alloc | apply Grw.drewN | apply Grw.drew))⟩ | ((repeat apply Exists.intro); exact ⟨⟨k + 1, c1, A1, acc, by omega, by go_num, rfl, hown.alloc _, by omega, (by repeat (first | exact HB1.out | apply SlB.alloc | apply SlB.ext | apply SlB.drewN)), HS2.out, (by repeat (first | exact HG.out | apply Grw.ext | apply Grw.alloc | apply Grw.drewN | apply Grw.drew))⟩, rfl⟩)
        case measure => simp [intOf]; omega
      · have hq : ((x.kind : Int) != 0) = true := by simp [hk0]
        have HS2 := Lib.hid (show txts l = (acc ++ [x.text]) ++ txts (l.drop (k + 1)) by have := HS.out; rw [if_neg hk0] at this; rw [List.append_assoc]; exact this)
        clear hk0
        go_wp2_with (first
          | (at_builtin
             refine wpList_append_own _ rfl _ _ 44 rfl w.heap.size 9 i0 _ 1 16 Tryd.underlying44 hi0 hz0 hz1 hz2 rfl (by decide) (.slice A1 acc.length c1) acc.length (acc.map strV) rfl ((hown.alloc _).alloc _) ⟨wr.heap.size + 1, 0, none⟩ 1 1 [.string (bs x.text)] rfl rfl ?d1 ?d2 ?d3 ?d4 ?d5 ?_
             case d1 => exact news_alloc _ #[_] _ _ (by simp)
             case d2 => simp [Value.oneCell']
             case d3 => simp only [maxLen]; omega
             case d4 => omega
             case d5 => simp only [World.size_alloc]; omega
             intro v' w1 hown1 hgrow _
             obtain ⟨gg', cap', rfl, _, _⟩ := hown1.form (by omega)
             have hgr1 : Grw w w1 := Grw.grown (by repeat (first | exact HG.out | apply Grw.ext | apply Grw.alloc | apply Grw.drewN | apply Grw.drew)) hgrow (fun k hk => by have := hown.lt k hk; omega)
             have hsl1 : SlB Tok.cells 3 w1 B (some ⟨b1, ob, none⟩) l := SlB.grown (by repeat (first | exact HB1.out | apply SlB.alloc | apply SlB.ext | apply SlB.drewN)) hgrow (fun k hk => by have := hown.lt k hk; omega)))
        have hrel2 : ∃ (k2 c2 : Nat) (A2 : Option Addr) (acc2 : List (List UInt8)), k2 ≤ l.length ∧ Value.int .i64 ((k : Int) + 1) = .int .i64 k2 ∧ Value.slice (some ⟨gg', 0, none⟩) (acc.length + 1) cap' = .slice A2 acc2.length c2 ∧ w1.ownsRow w.heap.size 9 1 (.slice A2 acc2.length c2) acc2.length (acc2.map strV) ∧ acc2.length ≤ k2 ∧ SlB Tok.cells 3 w1 B (some ⟨b1, ob, none⟩) l ∧ txts l = acc2 ++ txts (l.drop k2) ∧ Grw w w1 :=
          ⟨k + 1, cap', some ⟨gg', 0, none⟩, acc ++ [x.text], by omega, by go_num, by rw [List.length_append]; rfl, by rw [List.length_append, List.map_append]; exact hown1, by simp; omega, hsl1, HS2.out, hgr1⟩
        go_roundw
        case rel => first | exact hrel2 | ((repeat apply Exists.intro); exact ⟨hrel2, rfl⟩)
        case measure => simp [intOf]; omega
    · obtain rfl : k = l.length := by omega
      rw [List.drop_eq_nil_of_le (Nat.le_refl _), txts, List.append_nil] at hs
      rw [hs] at hT
      have HT := Lib.hid hT
      have HTL := Lib.hid hTl
      clear hb1 hs h hm hT hTl
      by_cases h0 : acc = []
      · subst h0
        go_wp2_with (go_at_call 19; refine (Tryd.strings_Join_none _ _ _ _).mono ?_; rintro e w1 ⟨rfl, rfl⟩)
        go_ret
        exact ⟨by rw [HT.out]; rfl, hg⟩
      · have hpos := List.length_pos_iff.2 h0
        obtain ⟨gg, cap, hv, _, hgl⟩ := hown.form hpos
        injection hv with hA hc hcap
        subst hA
        subst hcap
        have hcells : ∀ (j : Nat) y, (acc.map bs)[j]? = some y → wr.cell? ⟨gg, 0 + j, none⟩ = some (.string y) := by
          intro j y hy
          rw [List.getElem?_map, Option.map_eq_some_iff] at hy
          obtain ⟨z, hz, rfl⟩ := hy
          have hsl : Sl (fun s => [strV s]) 1 wr (some ⟨gg, 0, none⟩) acc := Sl.of_own (fun _ => rfl) (by decide) (by rw [← List.map_eq_flatMap]; exact hown)
          obtain ⟨b, o, hb, _, hc⟩ := hsl.at_ hz
          injection hb with hb
          injection hb with h1 h2
          subst h1; subst h2
          have := hc 0 _ rfl
          simpa [strV] using this
        have hcapl : (acc.map bs).length ≤ c1 := by rw [List.length_map]; exact own_cap hown
        have hmm : (acc.map bs).map (·.data.toList) = acc := by simp [Function.comp_def]
        have hj := Tryd.strings_Join gg 0 c1 (acc.map bs) (bs [32]) wr hcells hgl (by simp; omega) hcapl (by rw [hmm, bs_data, ← HT.out]; have := HTL.out; simp only [textL, List.length_nil] at this ⊢; omega)
        rw [hmm, List.length_map, show ((bs [32]).data.toList) = [32] from rfl, ← HT.out] at hj
        have HJ := Lib.hid hj
        clear hj hcells
        go_wp2_with (go_at_call 19; refine (HJ.out).mono ?_; rintro e w1 ⟨rfl, hq⟩)
        go_ret
        exact ⟨rfl, hg.trans (Grw.of_below hq)⟩
end
end Go.Proofs.YtnindeoemfgkeaaRRRRDoor
