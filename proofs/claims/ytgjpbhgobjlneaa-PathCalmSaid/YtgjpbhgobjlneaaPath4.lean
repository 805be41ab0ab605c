/- The contract of the search's meeting (a function inside path.spread). Conditions: fewer than a million objects; the number met is an int. -/
import Derived.Test.YtgjpbhgobjlneaaPath3
import Derived.Test.YtgjpbhgobjlneaaMp
import Derived.RangeFuncBox
import Derived.Deep.AppendLies
namespace Go.Proofs.Ytgjpbhgobjlneaa
open Go.RowKit
def byF (st : List (Int × Int)) (a : Int) : Option Value := (st.find? fun p => p.1 == a).map fun p => .int .i64 p.2
theorem byF_some (st : List (Int × Int)) (a : Int) : (byF st a).isSome = seen st a := by
  unfold byF seen
  rw [Option.isSome_map]
  induction st with
  | nil => rfl
  | cons p r ih =>
    rw [List.find?_cons, List.any_cons]
    cases h : (p.1 == a)
    · simpa using ih
    · rfl
theorem byF_snoc {st : List (Int × Int)} {a b : Int} (h : seen st a = false) : upd (byF st) a (.int .i64 b) = byF (st ++ [(a, b)]) := by
  have hf : (st.find? fun p => p.1 == a) = none := by
    have := byF_some st a
    rw [h] at this
    unfold byF at this
    rw [Option.isSome_map] at this
    cases hx : (st.find? fun p => p.1 == a) with
    | none => rfl
    | some x => rw [hx] at this; cases this
  funext j
  unfold upd byF
  rw [List.find?_append]
  by_cases hj : j = a
  · subst hj; simp [hf]
  · rw [if_neg hj]
    have : ((a : Int) == j) = false := by simp; exact fun e => hj e.symm
    simp [this]
def keysV (st : List (Int × Int)) : List Value := st.map fun p => .int .i64 p.1
/-- The search's variables and what it has met so far: five blocks from s on, and the order's row behind them. -/
def Sp (s : Nat) (lv : Value) (ar : Int) (st : List (Int × Int)) (w : World) : Prop :=
  ∃ A c, Boxed w s 38 lv ∧ Boxed w (s + 1) 3 (.int .i64 ar) ∧ Boxed w (s + 3) 56 (.map (some (s + 2))) ∧ Boxed w (s + 4) 39 (.slice A st.length c) ∧ IM Try.prog 3 w (s + 2) st.length (byF st) ∧
    w.ownsRow (s + 5) 3 1 (.slice A st.length c) st.length (keysV st) ∧ s + 5 ≤ w.heap.size
/-- A block that the search does not write. -/
def Oth (s : Nat) (w : World) (g : Nat) : Prop := g < w.heap.size ∧ g ≠ s + 2 ∧ g ≠ s + 4 ∧ ∀ v, Boxed w (s + 4) 39 v → some g ≠ v.ownBlock
def Kps (s : Nat) (w w' : World) : Prop := Below s w w' ∧ ∀ g, Oth s w g → Oth s w' g ∧ w'.heap[g]? = w.heap[g]?
theorem Kps.refl (s : Nat) (w : World) : Kps s w w := ⟨Below.refl _ _, fun _ h => ⟨h, rfl⟩⟩
theorem Kps.trans {s : Nat} {a b c : World} (h : Kps s a b) (k : Kps s b c) : Kps s a c :=
  ⟨h.1.trans k.1, fun g hg => ⟨(k.2 g (h.2 g hg).1).1, (k.2 g (h.2 g hg).1).2.trans (h.2 g hg).2⟩⟩
theorem Boxed.uniq {w : World} {b : Nat} {t : TypeId} {u v : Value} (h : Boxed w b t u) (k : Boxed w b t v) : u = v := by
  have := (show w.heap[b]? = _ from h).symm.trans (show w.heap[b]? = _ from k)
  simpa using this
theorem low_ne {W : World} {s size k j : Nat} {e : TypeId} {v : Value} {xs : List Value} (hr : W.ownsRow s e size v k xs) (hj : j < s) : some j ≠ v.ownBlock := fun h => by
  have := own_beyond hr j h.symm; omega
theorem own_map' {W : World} {b : Nat} {base size k' : Nat} {e : TypeId} {v : Value} {xs : List Value} (hr : W.ownsRow base e size v k' xs) (h : b < base) (o : Obj) : (pb W b o).ownsRow base e size v k' xs :=
  hr.kept (grownBy_pb W b o) (.inr (low_ne hr h).symm)
section
variable {s g cap : Nat} {lv : Value} {ar a b : Int} {st : List (Int × Int)} {w w1 : World} {A : Option Addr} {c : Nat} {ob tmp : Obj}
theorem meet_state (h0 : Boxed w s 38 lv) (h1 : Boxed w (s + 1) 3 (.int .i64 ar)) (h3 : Boxed w (s + 3) 56 (.map (some (s + 2)))) (h4 : Boxed w (s + 4) 39 (.slice A st.length c))
    (ho : w.ownsRow (s + 5) 3 1 (.slice A st.length c) st.length (keysV st)) (hsz : s + 5 ≤ w.heap.size)
    (hI : IM Try.prog 3 (pb w (s + 2) ob) (s + 2) (st.length + 1) (byF (st ++ [(a, b)]))) (hgr : ((pb w (s + 2) ob).alloc tmp).grownBy w1 (Value.slice A st.length c).ownBlock)
    (hn : w1.ownsRow (s + 5) 3 1 (.slice (some ⟨g, 0, none⟩) (st.length + 1) cap) (st.length + 1) (keysV st ++ [.int .i64 a])) (hw : (Value.slice A st.length c).ownBlock = some g ∨ g = w.heap.size + 1) :
    Boxed w1 (s + 4) 39 (.slice A st.length c) ∧ Sp s lv ar (st ++ [(a, b)]) (w1.setCell ⟨s + 4, 0, none⟩ (.slice (some ⟨g, 0, none⟩) (st.length + 1) cap)) ∧ Kps s w (w1.setCell ⟨s + 4, 0, none⟩ (.slice (some ⟨g, 0, none⟩) (st.length + 1) cap)) := by
  have near : ∀ k, k < w.heap.size → k ≠ s + 2 → some k ≠ (Value.slice A st.length c).ownBlock → w1.heap[k]? = w.heap[k]? := fun k hk h2 hr =>
    (hgr.block k (by simp [pb_size]; omega) hr).trans ((Below.heap_alloc _ tmp k (by rw [pb_size]; exact hk)).trans (pb_get_other _ _ _ _ h2))
  have far : ∀ k, k < w.heap.size → k ≠ s + 2 → k ≠ s + 4 → some k ≠ (Value.slice A st.length c).ownBlock → (w1.setCell ⟨s + 4, 0, none⟩ (.slice (some ⟨g, 0, none⟩) (st.length + 1) cap)).heap[k]? = w.heap[k]? := fun k hk h2 h4 hr =>
    (Below.heap_setCell w1 ⟨s + 4, 0, none⟩ _ k h4).trans (near k hk h2 hr)
  have hb4 : Boxed w1 (s + 4) 39 (.slice A st.length c) := (near (s + 4) (by omega) (by omega) (low_ne ho (by omega))).trans h4
  have hs4 := hb4.set (.slice (some ⟨g, 0, none⟩) (st.length + 1) cap)
  have hsz1 := hgr.size
  simp only [World.size_alloc, pb_size] at hsz1
  have e : (st ++ [(a, b)]).length = st.length + 1 := by simp
  refine ⟨hb4, ⟨some ⟨g, 0, none⟩, cap, (far s (by omega) (by omega) (by omega) (low_ne ho (by omega))).trans h0, (far (s + 1) (by omega) (by omega) (by omega) (low_ne ho (by omega))).trans h1, (far (s + 3) (by omega) (by omega) (by omega) (low_ne ho (by omega))).trans h3, ?_, ?_, ?_, ?_⟩, ?_, ?_⟩
  · rw [e]; exact hs4
  · rw [e]; exact ((hI.alloc tmp).grown hgr (low_ne ho (by omega))).setCell (p := ⟨s + 4, 0, none⟩) (by show s + 2 ≠ s + 4; omega) _
  · rw [e]
    have : keysV (st ++ [(a, b)]) = keysV st ++ [.int .i64 a] := by simp [keysV]
    rw [this]
    exact hn.kept (grownBy_setCell' w1 (s + 4) _) (.inr (low_ne hn (by omega)).symm)
  · rw [World.size_setCell]; omega
  · exact (((below_pb (Below.refl s w) (by omega) ob).alloc (by rw [pb_size]; omega) tmp).grown hgr (by simp [pb_size]; omega) (fun k hk => by have := own_beyond ho k hk; omega)).setCell (p := ⟨s + 4, 0, none⟩) (by show s ≤ s + 4; omega) _
  · rintro k ⟨k1, k2, k3, k4⟩
    refine ⟨⟨by rw [World.size_setCell]; omega, k2, k3, fun v hv => ?_⟩, far k k1 k2 k3 (k4 _ h4)⟩
    obtain rfl := Boxed.uniq hs4 hv
    rcases hw with hw | hw
    · have := k4 _ h4; rw [hw] at this; exact this
    · intro e'; simp [Value.ownBlock] at e'; omega
end
section
variable (l : List Cl) (A : Option Addr) (c B s : Nat) (ar a b : Int) (st : List (Int × Int)) (w : World)
set_option maxRecDepth 100000 in
set_option maxHeartbeats 2000000 in
theorem meet_any (h : Hp w B A l) (hn : l.length ≤ 1000000) (hs : Sp s (.slice A l.length c) ar st w) (hst : st.length ≤ 1000000) (ha : (Lit.int .i64 a).wf = true) :
    Calls Try.prog 51 #[.int .i64 a, .int .i64 b, .pointer (some ⟨s + 3, 0, none⟩), .pointer (some ⟨s + 1, 0, none⟩), .pointer (some ⟨s, 0, none⟩), .pointer (some ⟨s + 4, 0, none⟩)] w
      fun e w' => (∃ v, e = .returned v) ∧ Sp s (.slice A l.length c) ar (meetL l ar st a b) w' ∧ Kps s w w' := by
  have HS := Lib.hid hs
  have H := Lib.hid h
  obtain ⟨OA, oc, h0, h1, h3, h4, hI, ho, hsz⟩ := hs
  have c0 := h0.cell
  have c1 := h1.cell
  have c3 := h3.cell
  have c4 := h4.cell
  have HI := Lib.hid hI
  have HZ := Lib.hid (show ∀ u : World, (zeroValue 3).run Try.prog u = .ok (.int .i64 0) u from fun u => Try.zeroValue3 u)
  have hsn := byF_some st a
  cases hse : seen st a
  · rw [hse] at hsn
    have T1 : Hid (byF st a = none) := Lib.hid (by cases hx : byF st a with | none => rfl | some _ => rw [hx] at hsn; cases hsn)
    by_cases har : a = ar
    · have HM := Lib.hid (show meetL l ar st a b = st by unfold meetL fitL; simp [har])
      have e0 : ((a : Int) != ar) = false := by simp [har]
      clear h hI ho h0 h1 h3 h4 hse hsn har
      go_enter Try.func51, Try.ntmps51
      go_wp2_with (at_lookup; refine wpList_look _ rfl _ _ 56 rfl 3 3 Try.underlying3 Try.underlying56 (HZ.out _) _ _ _ rfl HI.out _ ha rfl ?_; rw [T1.out])
      go_end0
      exact ⟨⟨_, rfl⟩, by rw [HM.out]; exact HS.out, Kps.refl _ _⟩
    · have e0 : ((a : Int) != ar) = true := by simpa using har
      cases hlv : liveL l a
      · have HM := Lib.hid (show meetL l ar st a b = st by unfold meetL fitL; simp [hlv])
        have HL := Lib.hid hlv
        clear h hI ho h0 h1 h3 h4 hse hsn har hlv
        go_enter Try.func51, Try.ntmps51
        go_wp2_with (first
          | (at_lookup; refine wpList_look _ rfl _ _ 56 rfl 3 3 Try.underlying3 Try.underlying56 (HZ.out _) _ _ _ rfl HI.out _ ha rfl ?_; rw [T1.out])
          | (go_at_call 36; refine (live_any l A c B _ a H.out hn).mono ?_; rw [HL.out]; rintro e w' ⟨rfl, rfl⟩))
        go_end0
        exact ⟨⟨_, rfl⟩, by rw [HM.out]; exact HS.out, Kps.refl _ _⟩
      · have HM := Lib.hid (show meetL l ar st a b = st ++ [(a, b)] by unfold meetL fitL; simp [hlv, hse, e0])
        have HL := Lib.hid hlv
        have HF := Lib.hid (byF_snoc (b := b) hse)
        have HB := Lib.hid (And.intro h0 (And.intro h1 (And.intro h3 (And.intro h4 (And.intro ho hsz)))))
        have hn1 : st.length < maxLen := by unfold maxLen; omega
        have HOW : Hid (∀ ob tmp : Obj, ((pb w (s + 2) ob).alloc tmp).ownsRow (s + 5) 3 1 (.slice OA st.length oc) st.length (keysV st)) := Lib.hid fun ob tmp => own_alloc (own_map' ho (by omega) ob) tmp
        obtain ⟨i0, hi, hz0, hz1, hz2⟩ := info_parts infoI
        clear h hI ho h0 h1 h3 h4 hse hsn har hlv
        go_enter Try.func51, Try.ntmps51
        go_wp2_with (first
          | (at_lookup; refine wpList_look _ rfl _ _ 56 rfl 3 3 Try.underlying3 Try.underlying56 (HZ.out _) _ _ _ rfl HI.out _ ha rfl ?_; rw [T1.out])
          | (go_at_call 36; refine (live_any l A c B _ a H.out hn).mono ?_; rw [HL.out]; rintro e w' ⟨rfl, rfl⟩)
          | (at_mapUpdate
             refine wpList_mput _ rfl _ _ _ 56 rfl 3 3 Try.underlying3 Try.underlying56 _ _ _ rfl HI.out hn1 _ ha rfl (.int .i64 b) rfl ?_
             intro ob him
             rw [HF.out] at him
             have HI2 := Lib.hid him
             clear him)
          | (at_builtin
             refine wpList_append_lies _ rfl _ _ 39 rfl (s + 5) 3 i0 _ 1 8 Try.underlying39 hi hz0 hz1 hz2 rfl (by decide) (.slice OA st.length oc) st.length (keysV st) rfl (HOW.out ob _) ⟨w.heap.size, 0, none⟩ 1 1 [.int .i64 a] rfl rfl ?c1 ?c2 ?c6 ?c3 ?c4 ?c5 (w.heap.size + 1) ?c7 ?_
             case c1 => exact news_alloc _ #[_] _ _ (by simp [pb_size])
             case c2 => simp [Value.oneCell']
             case c6 => decide
             case c3 => unfold maxLen; omega
             case c4 => omega
             case c5 => simp [pb_size]; omega
             case c7 => simp [pb_size]
             intro g cap w1 hown1 hgrow hw _
             obtain ⟨q1, q2, q3⟩ := meet_state HB.out.1 HB.out.2.1 HB.out.2.2.1 HB.out.2.2.2.1 HB.out.2.2.2.2.1 HB.out.2.2.2.2.2 HI2.out hgrow hown1 hw
             have Q2 := Lib.hid q2
             have Q3 := Lib.hid q3
             have c5 := q1.cell
             have c6 := q1.frozen
             clear hown1 hgrow hw q1 q2 q3))
        go_end0
        exact ⟨⟨_, rfl⟩, by rw [HM.out]; exact Q2.out, Q3.out⟩
  · rw [hse] at hsn
    obtain ⟨x, hx⟩ : ∃ x, byF st a = some x := Option.isSome_iff_exists.1 hsn
    have T1 := Lib.hid hx
    have HM := Lib.hid (show meetL l ar st a b = st by unfold meetL; simp [hse])
    clear h hI ho h0 h1 h3 h4 hse hsn hx
    go_enter Try.func51, Try.ntmps51
    go_wp2_with (at_lookup; refine wpList_look _ rfl _ _ 56 rfl 3 3 Try.underlying3 Try.underlying56 (HZ.out _) _ _ _ rfl HI.out _ ha rfl ?_; rw [T1.out])
    go_end0
    exact ⟨⟨_, rfl⟩, by rw [HM.out]; exact HS.out, Kps.refl _ _⟩
end
end Go.Proofs.Ytgjpbhgobjlneaa
