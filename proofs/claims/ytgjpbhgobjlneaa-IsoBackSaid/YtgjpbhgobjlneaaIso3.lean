/- Contracts of cmp.Compare at ints and of matcher.hold. Conditions: none. -/
import Derived.Test.YtgjpbhgobjlneaaIso2
import Derived.Test.YtgjpbhgobjlneaaLib3
namespace Go.Proofs.Ytgjpbhgobjlneaa
open Go.RowKit
def cmpI (a b : Int) : Int := if a < b then -1 else if b < a then 1 else 0
theorem cmpI_sgn (a : Int) : cmpI a 0 = sgn a := by unfold cmpI sgn; split <;> split <;> (try split) <;> omega
set_option maxHeartbeats 1000000 in
theorem compare_any (a b : Int) (w : World) : Calls Try.prog 56 #[.int .i64 a, .int .i64 b] w fun e w' => e = .returned (.int .i64 (cmpI a b)) ∧ w = w' := by
  have hcs : a < b ∨ b < a ∨ a = b := by omega
  rcases hcs with h | h | rfl
  · have HC := Lib.hid (show cmpI a b = -1 by unfold cmpI; rw [if_pos h])
    go_enter Try.func56, Try.ntmps56
    go_wp2
    go_ret
    exact ⟨by rw [HC.out]; rfl, rfl⟩
  · have HC := Lib.hid (show cmpI a b = 1 by unfold cmpI; rw [if_neg (by omega), if_pos h])
    have h2 : ¬ a < b := by omega
    go_enter Try.func56, Try.ntmps56
    go_wp2
    go_ret
    exact ⟨by rw [HC.out]; rfl, rfl⟩
  · have HC := Lib.hid (show cmpI a a = 0 by unfold cmpI; rw [if_neg (by omega), if_neg (by omega)])
    go_enter Try.func56, Try.ntmps56
    go_wp2
    go_ret
    exact ⟨by rw [HC.out]; rfl, rfl⟩
def thF (ps : List (Int × Int)) (i : Int) : Option Value := (fstF ps i).map fun p => .int .i64 p.2
def bkF (ps : List (Int × Int)) (i : Int) : Option Value := (sndF ps i).map fun p => .int .i64 p.1
theorem thF_snoc {ps : List (Int × Int)} {a b : Int} (h : fstF ps a = none) : upd (thF ps) a (.int .i64 b) = thF (ps ++ [(a, b)]) := by
  funext j
  unfold upd thF fstF at *
  rw [List.find?_append]
  by_cases hj : j = a
  · subst hj; simp [h]
  · rw [if_neg hj]
    have : ((a : Int) == j) = false := by simp; exact fun e => hj e.symm
    simp [this]
theorem bkF_snoc {ps : List (Int × Int)} {a b : Int} (h : sndF ps b = none) : upd (bkF ps) b (.int .i64 a) = bkF (ps ++ [(a, b)]) := by
  funext j
  unfold upd bkF sndF at *
  rw [List.find?_append]
  by_cases hj : j = b
  · subst hj; simp [h]
  · rw [if_neg hj]
    have : ((b : Int) == j) = false := by simp; exact fun e => hj e.symm
    simp [this]
/-- Block g is a matcher that holds these pairs; all that is its own lies at B or beyond. -/
def St (B : Nat) (w : World) (g : Nat) (ps : List (Int × Int)) : Prop :=
  ∃ bt bb A c, w.heap[g]? = some (.cells #[.map (some bt), .map (some bb), .slice A ps.length c] 58) ∧ IM Try.prog 3 w bt ps.length (thF ps) ∧ IM Try.prog 3 w bb ps.length (bkF ps) ∧
    w.ownsRow B 29 2 (.slice A ps.length c) ps.length (ps.flatMap pairC) ∧ bt ≠ bb ∧ bt ≠ g ∧ bb ≠ g ∧ B ≤ bt ∧ B ≤ bb ∧ B ≤ g ∧ B ≤ w.heap.size
/-- Whatever is cells, but for a matcher and rows of pairs, lies as it lay. -/
def Kpt (w w' : World) : Prop := ∀ (k : Nat) (cs : Array Value) (t : TypeId), w.heap[k]? = some (.cells cs t) → t ≠ 58 → t ≠ 29 → w'.heap[k]? = some (.cells cs t)
theorem Kpt.refl (w : World) : Kpt w w := fun _ _ _ h _ _ => h
theorem Kpt.trans {a b c : World} (h : Kpt a b) (k : Kpt b c) : Kpt a c := fun i cs t hi h1 h2 => k i cs t (h i cs t hi h1 h2) h1 h2
theorem Kpt.of_below {a b : World} (h : Below a.heap.size a b) : Kpt a b := fun i _ _ hi _ _ => (h.block i (Array.getElem?_eq_some_iff.1 hi).1).trans hi
theorem Kpt.pb {P : Program} {k : TypeId} {n : Nat} {f : Int → Option Value} {w : World} {b : Nat} (h : IM P k w b n f) (o : Obj) : Kpt w (pb w b o) := fun i cs t hi _ _ => by
  obtain ⟨D, ⟨es, clock, hb, _⟩, _⟩ := h
  exact (pb_get_other w b o i (fun e => by subst e; rw [hb] at hi; cases hi)).trans hi
def HoldPost (B : Nat) (w : World) (g : Nat) (ps : List (Int × Int)) (a b : Int) (e : Ending) (w' : World) : Prop :=
  e = .returned (.bool (holdL ps a b).isSome) ∧ Below B w w' ∧ Kpt w w' ∧ ∀ qs, holdL ps a b = some qs → St B w' g qs
theorem below_draw {B : Nat} {w w' : World} (h : Below B w w') : Below B w w'.drew := ⟨h.os, h.tape, h.output, h.size, h.block⟩
theorem grownBy_set (W : World) (b i : Nat) (v : Value) : W.grownBy (W.setCell ⟨b, i, none⟩ v) (some b) :=
  ⟨rfl, rfl, rfl, by rw [World.size_setCell]; exact Nat.le_refl _, fun k _ hk => Below.heap_setCell _ _ _ k (fun e => hk (by rw [e]))⟩
theorem map_not_row {P : Program} {k : TypeId} {n : Nat} {f : Int → Option Value} {W : World} {b : Nat} (h : IM P k W b n f) {base size k' : Nat} {e : TypeId} {v : Value} {xs : List Value} (hr : W.ownsRow base e size v k' xs) : some b ≠ v.ownBlock := by
  obtain ⟨D, ⟨es, clock, hb, _⟩, _⟩ := h
  rcases hr.2 with ⟨rfl, _⟩ | ⟨g, cap, cur, rfl, _, hgb, _⟩
  · simp [Value.ownBlock]
  · intro e'
    obtain rfl : b = g := by simpa [Value.ownBlock] using e'
    rw [hb] at hgb; cases hgb
theorem own_map {P : Program} {k : TypeId} {n : Nat} {f : Int → Option Value} {W : World} {b : Nat} {base size k' : Nat} {e : TypeId} {v : Value} {xs : List Value} (hr : W.ownsRow base e size v k' xs) (h : IM P k W b n f) (o : Obj) : (pb W b o).ownsRow base e size v k' xs :=
  hr.kept (grownBy_pb W b o) (.inr (map_not_row h hr).symm)
section
variable {W2 w1 : World} {B g bt bb k c k' : Nat} {A : Option Addr} {tmp : Obj} {xs ys : List Value} {v' : Value}
theorem hold_row (hg : W2.heap[g]? = some (.cells #[.map (some bt), .map (some bb), .slice A k c] 58)) (ho : W2.ownsRow B 29 2 (.slice A k c) k xs) : some g ≠ (Value.slice A k c).ownBlock := block_not_row hg (by decide) ho
theorem hold_block (hg : W2.heap[g]? = some (.cells #[.map (some bt), .map (some bb), .slice A k c] 58)) (ho : W2.ownsRow B 29 2 (.slice A k c) k xs) (hgr : (W2.alloc tmp).grownBy w1 (Value.slice A k c).ownBlock) :
    w1.heap[g]? = some (.cells #[.map (some bt), .map (some bb), .slice A k c] 58) :=
  (hgr.block g (by simp; have := (Array.getElem?_eq_some_iff.1 hg).1; omega) (hold_row hg ho)).trans ((Below.heap_alloc W2 tmp g (Array.getElem?_eq_some_iff.1 hg).1).trans hg)
theorem hold_cell (hg : W2.heap[g]? = some (.cells #[.map (some bt), .map (some bb), .slice A k c] 58)) (ho : W2.ownsRow B 29 2 (.slice A k c) k xs) (hgr : (W2.alloc tmp).grownBy w1 (Value.slice A k c).ownBlock) :
    w1.cell? ⟨g, 2, none⟩ = some (.slice A k c) := by simp [World.cell?, hold_block hg ho hgr]
theorem hold_frozen (hg : W2.heap[g]? = some (.cells #[.map (some bt), .map (some bb), .slice A k c] 58)) (ho : W2.ownsRow B 29 2 (.slice A k c) k xs) (hgr : (W2.alloc tmp).grownBy w1 (Value.slice A k c).ownBlock) :
    w1.frozen? ⟨g, 2, none⟩ = false := by simp [World.frozen?, hold_block hg ho hgr]
theorem own_beyond {W : World} {base size k : Nat} {e : TypeId} {v : Value} {xs : List Value} (hr : W.ownsRow base e size v k xs) : ∀ j, v.ownBlock = some j → base ≤ j := by
  rcases hr.2 with ⟨rfl, _⟩ | ⟨g, cap, cur, rfl, hb, _⟩
  · intro j h; simp [Value.ownBlock] at h
  · intro j h
    obtain rfl : g = j := by simpa [Value.ownBlock] using h
    exact hb
theorem hold_below {w : World} (hb : Below B w W2) (ho : W2.ownsRow B 29 2 (.slice A k c) k xs) (hsz : B ≤ W2.heap.size) (hgr : (W2.alloc tmp).grownBy w1 (Value.slice A k c).ownBlock) (hg : B ≤ g) (u : Value) :
    Below B w (w1.setCell ⟨g, 2, none⟩ u) :=
  ((hb.alloc hsz tmp).grown hgr (by simp; omega) (own_beyond ho)).setCell (p := ⟨g, 2, none⟩) hg u
theorem hold_kpt (hg : W2.heap[g]? = some (.cells #[.map (some bt), .map (some bb), .slice A k c] 58)) (ho : W2.ownsRow B 29 2 (.slice A k c) k xs) (hgr : (W2.alloc tmp).grownBy w1 (Value.slice A k c).ownBlock) (u : Value) :
    Kpt W2 (w1.setCell ⟨g, 2, none⟩ u) := fun i cs t hi h1 h2 => by
  refine grown_keep hi hgr (block_not_row hi h2 ho) ?_ u
  rintro rfl
  rw [hg] at hi
  simp at hi
  exact h1 hi.2.symm
theorem setCell_block {w : World} {g : Nat} {cs : Array Value} {t : TypeId} (h : w.heap[g]? = some (.cells cs t)) (i : Nat) (v : Value) : (w.setCell ⟨g, i, none⟩ v).heap[g]? = some (.cells (cs.setIfInBounds i v) t) := by
  have := sb_setCell w g t cs i v
  rw [sb_self w g t cs h] at this
  rw [this]
  exact sb_get_same _ _ _ _ (Array.getElem?_eq_some_iff.1 h).1
theorem hold_state {ps : List (Int × Int)} {a b : Int} {g' cap' : Nat} (hg : W2.heap[g]? = some (.cells #[.map (some bt), .map (some bb), .slice A ps.length c] 58)) (ho : W2.ownsRow B 29 2 (.slice A ps.length c) ps.length (ps.flatMap pairC)) (hgr : (W2.alloc tmp).grownBy w1 (Value.slice A ps.length c).ownBlock)
    (hn : w1.ownsRow B 29 2 (.slice (some ⟨g', 0, none⟩) (ps.length + 1) cap') (ps.length + 1) (ps.flatMap pairC ++ [.int .i64 a, .int .i64 b]))
    (h1 : IM Try.prog 3 W2 bt (ps.length + 1) (thF (ps ++ [(a, b)]))) (h2 : IM Try.prog 3 W2 bb (ps.length + 1) (bkF (ps ++ [(a, b)]))) (hsz : B ≤ W2.heap.size)
    (hx : bt ≠ bb ∧ bt ≠ g ∧ bb ≠ g ∧ B ≤ bt ∧ B ≤ bb ∧ B ≤ g) : St B (w1.setCell ⟨g, 2, none⟩ (.slice (some ⟨g', 0, none⟩) (ps.length + 1) cap')) g (ps ++ [(a, b)]) := by
  obtain ⟨x1, x2, x3, x4, x5, x6⟩ := hx
  have hb1 := hold_block hg ho hgr
  have hs := setCell_block hb1 2 (.slice (some ⟨g', 0, none⟩) (ps.length + 1) cap')
  have e : (ps ++ [(a, b)]).length = ps.length + 1 := by simp
  refine ⟨bt, bb, some ⟨g', 0, none⟩, cap', ?_, ?_, ?_, ?_, x1, x2, x3, x4, x5, x6, ?_⟩
  · rw [hs, e]; rfl
  · rw [e]; exact ((h1.alloc tmp).grown hgr (map_not_row h1 ho)).setCell (p := ⟨g, 2, none⟩) x2 _
  · rw [e]; exact ((h2.alloc tmp).grown hgr (map_not_row h2 ho)).setCell (p := ⟨g, 2, none⟩) x3 _
  · rw [e, List.flatMap_append]
    exact hn.kept (grownBy_set w1 g 2 _) (.inr (block_not_row hb1 (by decide) hn).symm)
  · rw [World.size_setCell]; have := hgr.size; simp at this; omega
end
section
variable (B g : Nat) (ps : List (Int × Int)) (a b : Int) (w : World)
theorem info_pair : (Try.prog.info? 29).map (fun i => (i.zero, i.size, i.bytes)) = some (some (.agg #[.int .i64 0, .int .i64 0]), 2, 16) := by kernel_rfl
theorem zero_int (w : World) : (zeroValue 3).run Try.prog w = .ok (.int .i64 0) w := Try.zeroValue3 w
set_option maxRecDepth 100000 in
set_option maxHeartbeats 4000000 in
theorem hold_any (ha : (Lit.int .i64 a).wf = true) (hb : (Lit.int .i64 b).wf = true) (hs : St B w g ps) (hn : ps.length ≤ 1000000) :
    Calls Try.prog 48 #[.pointer (some ⟨g, 0, none⟩), .int .i64 a, .int .i64 b] w (HoldPost B w g ps a b) := by
  by_cases hsg : sgn a = sgn b
  · have hne : ((sgn a : Int) != sgn b) = false := by simp [hsg]
    by_cases h0 : a = 0
    · have HH := Lib.hid (show holdL ps a b = some ps by unfold holdL; rw [if_neg (by simpa using hsg), if_pos h0])
      have e0 : ((a : Int) == 0) = true := by simp [h0]
      have HS := Lib.hid hs
      clear hsg h0 hs
      go_enter Try.func48, Try.ntmps48
      go_wp2_with (go_at_call 56; refine (compare_any _ _ _).mono ?_; rintro e w' ⟨rfl, rfl⟩; rw [cmpI_sgn])
      go_ret
      exact ⟨by rw [HH.out]; rfl, Below.refl _ _, Kpt.refl _, fun qs h => by rw [HH.out] at h; injection h with h; subst h; exact HS.out⟩
    · have e0 : ((a : Int) == 0) = false := by simpa using h0
      have HL : holdL ps a b = if (fstF ps a).isSome ∨ (sndF ps b).isSome then (if (fstF ps a).map (·.2) = some b ∧ (sndF ps b).map (·.1) = some a then some ps else none) else some (ps ++ [(a, b)]) := by
        unfold holdL; rw [if_neg (by simpa using hsg), if_neg h0]
      have HS := Lib.hid hs
      obtain ⟨bt, bb, A, c, hg, hi1, hi2, hown, h1, h2, h3, h4, h5, h6, h7⟩ := hs
      have c0 : w.cell? ⟨g, 0, none⟩ = some (.map (some bt)) := by simp [World.cell?, hg]
      have c1 : w.cell? ⟨g, 1, none⟩ = some (.map (some bb)) := by simp [World.cell?, hg]
      have HI1 := Lib.hid hi1
      have HI2 := Lib.hid hi2
      cases hf : fstF ps a with
      | some p =>
        have t1 : thF ps a = some (.int .i64 p.2) := by unfold thF; rw [hf]; rfl
        cases hk : sndF ps b with
        | some q =>
          have t2 : bkF ps b = some (.int .i64 q.1) := by unfold bkF; rw [hk]; rfl
          rw [hf, hk] at HL
          by_cases hp : p.2 = b
          · by_cases hq : q.1 = a
            · have HH := Lib.hid (show holdL ps a b = some ps by rw [HL]; simp [hp, hq])
              have eb1 : ((p.2 : Int) == b) = true := by simp [hp]
              have eb2 : ((q.1 : Int) == a) = true := by simp [hq]
              have T1 := Lib.hid t1
              have T2 := Lib.hid t2
              clear t1 t2 hf hk HL hp hq hg hi1 hi2 hown hsg h0
              go_enter Try.func48, Try.ntmps48
              go_wp2_with (first
                | (go_at_call 56; refine (compare_any _ _ _).mono ?_; rintro e w' ⟨rfl, rfl⟩; rw [cmpI_sgn])
                | (at_lookup; refine wpList_look _ rfl _ _ 56 rfl 3 3 Try.underlying3 Try.underlying56 (zero_int _) _ _ _ rfl HI1.out _ ha rfl ?_; rw [T1.out])
                | (at_lookup; refine wpList_look _ rfl _ _ 56 rfl 3 3 Try.underlying3 Try.underlying56 (zero_int _) _ _ _ rfl HI2.out _ hb rfl ?_; rw [T2.out]))
              go_ret
              exact ⟨by rw [HH.out]; rfl, Below.refl _ _, Kpt.refl _, fun qs h => by rw [HH.out] at h; injection h with h; subst h; exact HS.out⟩
            · have HH := Lib.hid (show holdL ps a b = none by rw [HL]; simp [hp, hq])
              have eb1 : ((p.2 : Int) == b) = true := by simp [hp]
              have eb2 : ((q.1 : Int) == a) = false := by simpa using hq
              have T1 := Lib.hid t1
              have T2 := Lib.hid t2
              clear t1 t2 hf hk HL hp hq hg hi1 hi2 hown hsg h0
              go_enter Try.func48, Try.ntmps48
              go_wp2_with (first
                | (go_at_call 56; refine (compare_any _ _ _).mono ?_; rintro e w' ⟨rfl, rfl⟩; rw [cmpI_sgn])
                | (at_lookup; refine wpList_look _ rfl _ _ 56 rfl 3 3 Try.underlying3 Try.underlying56 (zero_int _) _ _ _ rfl HI1.out _ ha rfl ?_; rw [T1.out])
                | (at_lookup; refine wpList_look _ rfl _ _ 56 rfl 3 3 Try.underlying3 Try.underlying56 (zero_int _) _ _ _ rfl HI2.out _ hb rfl ?_; rw [T2.out]))
              go_ret
              exact ⟨by rw [HH.out]; rfl, Below.refl _ _, Kpt.refl _, fun qs h => by rw [HH.out] at h; cases h⟩
          · have HH := Lib.hid (show holdL ps a b = none by rw [HL]; simp [hp])
            have eb1 : ((p.2 : Int) == b) = false := by simpa using hp
            have hq : True := trivial
            have T1 := Lib.hid t1
            have T2 := Lib.hid t2
            clear t1 t2 hf hk HL hp hq hg hi1 hi2 hown hsg h0
            go_enter Try.func48, Try.ntmps48
            go_wp2_with (first
              | (go_at_call 56; refine (compare_any _ _ _).mono ?_; rintro e w' ⟨rfl, rfl⟩; rw [cmpI_sgn])
              | (at_lookup; refine wpList_look _ rfl _ _ 56 rfl 3 3 Try.underlying3 Try.underlying56 (zero_int _) _ _ _ rfl HI1.out _ ha rfl ?_; rw [T1.out])
              | (at_lookup; refine wpList_look _ rfl _ _ 56 rfl 3 3 Try.underlying3 Try.underlying56 (zero_int _) _ _ _ rfl HI2.out _ hb rfl ?_; rw [T2.out]))
            go_ret
            exact ⟨by rw [HH.out]; rfl, Below.refl _ _, Kpt.refl _, fun qs h => by rw [HH.out] at h; cases h⟩
        | none =>
          have t2 : bkF ps b = none := by unfold bkF; rw [hk]; rfl
          rw [hf, hk] at HL
          have HH := Lib.hid (show holdL ps a b = none by rw [HL]; simp)
          have hp : True := trivial
          have hq : True := trivial
          have T1 := Lib.hid t1
          have T2 := Lib.hid t2
          clear t1 t2 hf hk HL hp hq hg hi1 hi2 hown hsg h0
          go_enter Try.func48, Try.ntmps48
          go_wp2_with (first
            | (go_at_call 56; refine (compare_any _ _ _).mono ?_; rintro e w' ⟨rfl, rfl⟩; rw [cmpI_sgn])
            | (at_lookup; refine wpList_look _ rfl _ _ 56 rfl 3 3 Try.underlying3 Try.underlying56 (zero_int _) _ _ _ rfl HI1.out _ ha rfl ?_; rw [T1.out])
            | (at_lookup; refine wpList_look _ rfl _ _ 56 rfl 3 3 Try.underlying3 Try.underlying56 (zero_int _) _ _ _ rfl HI2.out _ hb rfl ?_; rw [T2.out]))
          go_ret
          exact ⟨by rw [HH.out]; rfl, Below.refl _ _, Kpt.refl _, fun qs h => by rw [HH.out] at h; cases h⟩
      | none =>
        have t1 : thF ps a = none := by unfold thF; rw [hf]; rfl
        cases hk : sndF ps b with
        | some q =>
          have t2 : bkF ps b = some (.int .i64 q.1) := by unfold bkF; rw [hk]; rfl
          rw [hf, hk] at HL
          have HH := Lib.hid (show holdL ps a b = none by rw [HL]; simp)
          have hp : True := trivial
          have hq : True := trivial
          have T1 := Lib.hid t1
          have T2 := Lib.hid t2
          clear t1 t2 hf hk HL hp hq hg hi1 hi2 hown hsg h0
          go_enter Try.func48, Try.ntmps48
          go_wp2_with (first
            | (go_at_call 56; refine (compare_any _ _ _).mono ?_; rintro e w' ⟨rfl, rfl⟩; rw [cmpI_sgn])
            | (at_lookup; refine wpList_look _ rfl _ _ 56 rfl 3 3 Try.underlying3 Try.underlying56 (zero_int _) _ _ _ rfl HI1.out _ ha rfl ?_; rw [T1.out])
            | (at_lookup; refine wpList_look _ rfl _ _ 56 rfl 3 3 Try.underlying3 Try.underlying56 (zero_int _) _ _ _ rfl HI2.out _ hb rfl ?_; rw [T2.out]))
          go_ret
          exact ⟨by rw [HH.out]; rfl, Below.refl _ _, Kpt.refl _, fun qs h => by rw [HH.out] at h; cases h⟩
        | none =>
          have t2 : bkF ps b = none := by unfold bkF; rw [hk]; rfl
          have HH := Lib.hid (show holdL ps a b = some (ps ++ [(a, b)]) by rw [HL, hf, hk]; simp)
          have HF := Lib.hid (thF_snoc (b := b) hf)
          have HK := Lib.hid (bkF_snoc (a := a) hk)
          have hn1 : ps.length < maxLen := by unfold maxLen; omega
          obtain ⟨i0, hi, hz0, hz1, hz2⟩ := info_parts info_pair
          have T1 := Lib.hid t1
          have T2 := Lib.hid t2
          obtain ⟨v0, st, o1, e1, hst⟩ := (HI1.out.drew).entry Try.underlying3 Try.underlying56 zero_int hn1 ha
          obtain ⟨o2, e2, I1⟩ := hst (pb w.drew bt o1) (.int .i64 b) (pb_get_same _ _ _ HI1.out.lt)
          obtain ⟨v3, st3, o3, e3, hst3⟩ := ((HI2.out.drew).onpb (Ne.symm h1) o2).entry Try.underlying3 Try.underlying56 zero_int hn1 hb
          obtain ⟨o4, e4, I4⟩ := hst3 (pb (pb w.drew bt o2) bb o3) (.int .i64 a) (pb_get_same _ _ _ (by rw [pb_size]; exact HI2.out.lt))
          simp only [pb_pb, pb_drew, goInt] at e1 e2 e3 e4 I1 I4
          rw [HF.out] at I1
          rw [HK.out] at I4
          obtain ⟨W2, hW2⟩ : ∃ W2, (pb (pb w bt o2) bb o4).drew = W2 := ⟨_, rfl⟩
          have HT2 := Lib.hid (show Kpt w W2 by rw [← hW2]; exact ((Kpt.pb HI1.out o2).trans (Kpt.pb (HI2.out.onpb (Ne.symm h1) o2) o4)).trans (fun _ _ _ h _ _ => h))
          have HB2 := Lib.hid (show Below B w W2 by rw [← hW2]; exact below_draw (below_pb (below_pb (Below.refl _ _) h4 _) h5 _))
          have HG2 := Lib.hid (show W2.heap[g]? = some (.cells #[.map (some bt), .map (some bb), .slice A ps.length c] 58) by rw [← hW2]; exact (pb_get_other _ _ _ _ (Ne.symm h3)).trans ((pb_get_other _ _ _ _ (Ne.symm h2)).trans hg))
          have HO := Lib.hid (show W2.ownsRow B 29 2 (.slice A ps.length c) ps.length (ps.flatMap pairC) by rw [← hW2]; exact own_map (own_map hown HI1.out o2) (HI2.out.onpb (Ne.symm h1) o2) o4)
          have HI4 := Lib.hid (show IM Try.prog 3 W2 bt (ps.length + 1) (thF (ps ++ [(a, b)])) by rw [← hW2]; exact (I1.onpb h1 o4).drew)
          have HI5 := Lib.hid (show IM Try.prog 3 W2 bb (ps.length + 1) (bkF (ps ++ [(a, b)])) by rw [← hW2]; exact I4)
          have c2 : W2.cell? ⟨g, 2, none⟩ = some (.slice A ps.length c) := by simp [World.cell?, HG2.out]
          have hsz2 : B ≤ W2.heap.size := Nat.le_trans h7 HB2.out.size
          clear t1 t2 hf hk HL hg hi1 hi2 hown hsg h0 hst hst3 I1 I4
          go_enter Try.func48, Try.ntmps48
          go_wp2_with (first
            | (go_at_call 56; refine (compare_any _ _ _).mono ?_; rintro e w' ⟨rfl, rfl⟩; rw [cmpI_sgn])
            | (at_lookup; refine wpList_look _ rfl _ _ 56 rfl 3 3 Try.underlying3 Try.underlying56 (zero_int _) _ _ _ rfl HI1.out _ ha rfl ?_; rw [T1.out])
            | (at_lookup; refine wpList_look _ rfl _ _ 56 rfl 3 3 Try.underlying3 Try.underlying56 (zero_int _) _ _ _ rfl HI2.out _ hb rfl ?_; rw [T2.out]))
          go_region
          go_wp2_with (first
            | (at_builtin
               refine wpList_append_own _ rfl _ _ 24 rfl B 29 i0 _ 2 16 Try.underlying24 hi hz0 hz1 hz2 rfl (by decide) (.slice A ps.length c) ps.length (ps.flatMap pairC) rfl (HO.out.alloc _) ⟨W2.heap.size, 0, none⟩ 1 1 [.int .i64 a, .int .i64 b] rfl rfl ?c1 ?c2 ?c3 ?c4 ?c5 ?_
               case c1 => exact news_alloc _ #[_, _] _ _ rfl
               case c2 => simp [Value.oneCell']
               case c3 => unfold maxLen; omega
               case c4 => omega
               case c5 => have := hsz2; simp; omega
               intro v' w1 hown1 hgrow _
               have HN := Lib.hid hown1
               have HGr := Lib.hid hgrow
               have c3 : w1.cell? ⟨g, 2, none⟩ = some (.slice A ps.length c) := hold_cell HG2.out HO.out HGr.out
               have c4 : w1.frozen? ⟨g, 2, none⟩ = false := hold_frozen HG2.out HO.out HGr.out
               obtain ⟨g', cap', rfl⟩ := ownsRow_succ HN.out
               clear hown1 hgrow))
          go_ret
          refine ⟨by rw [HH.out]; rfl, ?_, HT2.out.trans (hold_kpt HG2.out HO.out HGr.out _), fun qs h => ?_⟩
          · exact hold_below HB2.out HO.out hsz2 HGr.out h6 _
          · rw [HH.out] at h; injection h with h; subst h
            exact hold_state HG2.out HO.out HGr.out HN.out HI4.out HI5.out hsz2 ⟨h1, h2, h3, h4, h5, h6⟩
  · have hne : ((sgn a : Int) != sgn b) = true := by simp [hsg]
    have HH := Lib.hid (show holdL ps a b = none by unfold holdL; rw [if_pos hsg])
    clear hsg
    go_enter Try.func48, Try.ntmps48
    go_wp2_with (go_at_call 56; refine (compare_any _ _ _).mono ?_; rintro e w' ⟨rfl, rfl⟩; rw [cmpI_sgn])
    go_ret
    exact ⟨by rw [HH.out]; rfl, Below.refl _ _, Kpt.refl _, fun qs h => by rw [HH.out] at h; cases h⟩
end
end Go.Proofs.Ytgjpbhgobjlneaa
