/- Layer 44, plain law: events that match are made of one another by their match, and by the match turned; all match themselves. No program in sight but for the types' numbers; no condition. -/
import Derived.Test.YtgjpbhgobjlneaaIso9
namespace Go.Proofs.Ytgjpbhgobjlneaa
open Go.RowKit
/-- What stands against a number. -/
def toF (m : List (Int × Int)) (n : Int) : Option Int := if n = 0 then some 0 else (fstF m n).map (·.2)
def Ev.put (e : Ev) (o : Off) (v : Int) : Ev := match o.1 with
  | 1 => { e with who := v } | 2 => { e with obj := v } | 5 => { e with n := v } | 6 => { e with o0 := v } | 7 => { e with o1 := v } | 8 => { e with o2 := v } | _ => { e with o3 := v }
/-- One number of an event is replaced. -/
def app1 (m : List (Int × Int)) (s : Ev × Bool) (o : Off) : Ev × Bool := (s.1.put o ((toF m (s.1.num o)).getD 0), s.2 && (toF m (s.1.num o)).isSome)
def appL (m : List (Int × Int)) (e : Ev) : Ev × Bool := (offR e.ref).foldl (app1 m) (e, true)
def swapP (m : List (Int × Int)) : List (Int × Int) := m.map fun p => (p.2, p.1)
theorem appL_true (m : List (Int × Int)) (k w b : Int) (s : List UInt8) (n o0 o1 o2 o3 : Int) : appL m ⟨k, w, b, s, true, n, o0, o1, o2, o3⟩ =
    (⟨k, (toF m w).getD 0, (toF m b).getD 0, s, true, (toF m n).getD 0, (toF m o0).getD 0, (toF m o1).getD 0, (toF m o2).getD 0, (toF m o3).getD 0⟩,
      (((((((true && (toF m w).isSome) && (toF m b).isSome) && (toF m n).isSome) && (toF m o0).isSome) && (toF m o1).isSome) && (toF m o2).isSome) && (toF m o3).isSome)) := rfl
theorem appL_false (m : List (Int × Int)) (k w b : Int) (s : List UInt8) (n o0 o1 o2 o3 : Int) : appL m ⟨k, w, b, s, false, n, o0, o1, o2, o3⟩ =
    (⟨k, (toF m w).getD 0, (toF m b).getD 0, s, false, n, (toF m o0).getD 0, (toF m o1).getD 0, (toF m o2).getD 0, (toF m o3).getD 0⟩,
      ((((((true && (toF m w).isSome) && (toF m b).isSome) && (toF m o0).isSome) && (toF m o1).isSome) && (toF m o2).isSome) && (toF m o3).isSome)) := rfl
/-- The numbers of two alike events stand against one another. -/
def Against (m : List (Int × Int)) (x y : Int) : Prop := toF m x = some y
theorem appL_made {m : List (Int × Int)} {a b : Ev} (hal : alikeE a b = true) (h : ∀ p ∈ a.nums.zip b.nums, Against m p.1 p.2) : appL m a = (b, true) := by
  obtain ⟨k1, x1, y1, n1, r1, v1, p1, p2, p3, p4⟩ := a
  obtain ⟨k2, x2, y2, n2, r2, v2, q1, q2, q3, q4⟩ := b
  simp only [alikeE, Bool.and_eq_true, beq_iff_eq, Bool.or_eq_true] at hal
  obtain ⟨⟨⟨rfl, rfl⟩, rfl⟩, h2⟩ := hal
  unfold Against at h
  cases r1
  · simp at h2
    subst h2
    simp [Ev.nums] at h
    rw [appL_false]
    simp [h]
  · simp [Ev.nums] at h
    rw [appL_true]
    simp [h]
theorem foldH_mem : ∀ {l ps qs : List (Int × Int)}, Fair ps → foldH ps l = some qs → (∃ r, qs = ps ++ r) ∧ ∀ p ∈ l, sgn p.1 = sgn p.2 ∧ (p.1 ≠ 0 → p ∈ qs)
  | [], ps, qs, hf, h => by simp [foldH] at h; subst h; exact ⟨⟨[], by simp⟩, by simp⟩
  | (a, b) :: r, ps, qs, hf, h => by
    simp only [foldH, Option.bind_eq_some_iff] at h
    obtain ⟨rs, h1, h2⟩ := h
    obtain ⟨g1, ⟨r1, rfl⟩, g3, g4⟩ := holdL_fair hf h1
    obtain ⟨⟨r2, rfl⟩, g5⟩ := foldH_mem g1 h2
    refine ⟨⟨r1 ++ r2, by simp⟩, fun p hp => ?_⟩
    rcases List.mem_cons.1 hp with rfl | hp
    · exact ⟨g3, fun h => by rw [List.mem_append]; exact .inl (g4 h)⟩
    · exact g5 p hp
theorem foldE_mem : ∀ {l : List (Ev × Ev)} {ps qs : List (Int × Int)}, Fair ps → foldE ps l = some qs → Fair qs ∧ (∃ r, qs = ps ++ r) ∧ ∀ p ∈ l, alikeE p.1 p.2 = true ∧ ∀ q ∈ p.1.nums.zip p.2.nums, sgn q.1 = sgn q.2 ∧ (q.1 ≠ 0 → q ∈ qs)
  | [], ps, qs, hf, h => by simp [foldE] at h; subst h; exact ⟨hf, ⟨[], by simp⟩, by simp⟩
  | (a, b) :: r, ps, qs, hf, h => by
    simp only [foldE, Option.bind_eq_some_iff] at h
    obtain ⟨rs, h1, h2⟩ := h
    unfold evL at h1
    split at h1
    · rename_i hal
      have hf1 := foldH_fair hf h1
      obtain ⟨⟨r1, rfl⟩, g2⟩ := foldH_mem hf h1
      obtain ⟨g3, ⟨r2, rfl⟩, g4⟩ := foldE_mem hf1 h2
      refine ⟨g3, ⟨r1 ++ r2, by simp⟩, fun p hp => ?_⟩
      rcases List.mem_cons.1 hp with rfl | hp
      · exact ⟨hal, fun q hq => ⟨(g2 q hq).1, fun h => by rw [List.mem_append]; exact .inl ((g2 q hq).2 h)⟩⟩
      · exact g4 p hp
    · cases h1
theorem against_of {m : List (Int × Int)} (hf : Fair m) {x y : Int} (hs : sgn x = sgn y) (h : x ≠ 0 → (x, y) ∈ m) : Against m x y := by
  unfold Against toF
  by_cases h0 : x = 0
  · rw [if_pos h0]
    have : y = 0 := sgn_zero.1 (by rw [← hs, h0]; rfl)
    rw [this]
  · rw [if_neg h0, fstF_mem hf (h h0)]; rfl
theorem fair_swap {m : List (Int × Int)} (hf : Fair m) : Fair (swapP m) := by
  refine ⟨fun p hp => ?_, fun p hp q hq => ?_⟩
  · obtain ⟨x, hx, rfl⟩ := List.mem_map.1 hp
    obtain ⟨h1, h2, h3⟩ := hf.1 x hx
    exact ⟨h2, h1, h3.symm⟩
  · obtain ⟨x, hx, rfl⟩ := List.mem_map.1 hp
    obtain ⟨y, hy, rfl⟩ := List.mem_map.1 hq
    exact (hf.2 x hx y hy).symm
theorem alike_symm {a b : Ev} (h : alikeE a b = true) : alikeE b a = true := by
  simp only [alikeE, Bool.and_eq_true, beq_iff_eq, Bool.or_eq_true] at h ⊢
  obtain ⟨⟨⟨h1, h2⟩, h3⟩, h4⟩ := h
  refine ⟨⟨⟨h1.symm, h2.symm⟩, h3.symm⟩, ?_⟩
  rcases h4 with h4 | h4
  · exact .inl (h3 ▸ h4)
  · exact .inr h4.symm
/-- What a match makes of each event. -/
theorem match_made {a b : List Ev} {m : List (Int × Int)} (h : matchL a b = some m) {i : Nat} {x y : Ev} (hx : a[i]? = some x) (hy : b[i]? = some y) : appL m x = (y, true) ∧ appL (swapP m) y = (x, true) := by
  unfold matchL at h
  split at h
  · obtain ⟨hf, _, hm⟩ := foldE_mem Fair.nil h
    have hz : (x, y) ∈ a.zip b := List.mem_of_getElem? (i := i) (by rw [List.getElem?_zip_eq_some]; exact ⟨hx, hy⟩)
    obtain ⟨hal, hq⟩ := hm _ hz
    refine ⟨appL_made hal fun p hp => against_of hf (hq p hp).1 (hq p hp).2, appL_made (alike_symm hal) fun p hp => ?_⟩
    have hp' : (p.2, p.1) ∈ x.nums.zip y.nums := by
      obtain ⟨j, hj⟩ := List.getElem?_of_mem hp
      rw [List.getElem?_zip_eq_some] at hj
      exact List.mem_of_getElem? (i := j) (by rw [List.getElem?_zip_eq_some]; exact ⟨hj.2, hj.1⟩)
    obtain ⟨g1, g2⟩ := hq _ hp'
    refine against_of (fair_swap hf) g1.symm fun h0 => ?_
    have h1 : p.2 ≠ 0 := fun e => h0 (sgn_zero.1 (by rw [← g1, e]; rfl))
    exact List.mem_map.2 ⟨(p.2, p.1), g2 h1, rfl⟩
  · cases h
/-! The match the other way round. -/
theorem fstF_swap (m : List (Int × Int)) (x : Int) : fstF (swapP m) x = (sndF m x).map fun p => (p.2, p.1) := by
  unfold fstF sndF swapP
  rw [List.find?_map]; rfl
theorem sndF_swap (m : List (Int × Int)) (x : Int) : sndF (swapP m) x = (fstF m x).map fun p => (p.2, p.1) := by
  unfold fstF sndF swapP
  rw [List.find?_map]; rfl
theorem holdL_swap (ps : List (Int × Int)) (a b : Int) : holdL (swapP ps) b a = (holdL ps a b).map swapP := by
  unfold holdL
  by_cases hs : sgn a = sgn b
  · have n1 : ¬ sgn b ≠ sgn a := fun h => h hs.symm
    have n2 : ¬ sgn a ≠ sgn b := fun h => h hs
    rw [if_neg n1, if_neg n2]
    by_cases h0 : a = 0
    · have hb : b = 0 := sgn_zero.1 (by rw [← hs, h0]; rfl)
      rw [if_pos hb, if_pos h0]; rfl
    · have hb : b ≠ 0 := fun e => h0 (sgn_zero.1 (by rw [hs, e]; rfl))
      rw [if_neg hb, if_neg h0, fstF_swap, sndF_swap]
      cases hf : fstF ps a <;> cases hk : sndF ps b <;> simp [swapP, and_comm] <;> split <;> simp_all
  · rw [if_pos (fun e => hs e.symm), if_pos hs]; rfl
theorem foldH_swap : ∀ (l ps : List (Int × Int)), foldH (swapP ps) (swapP l) = (foldH ps l).map swapP
  | [], ps => rfl
  | (a, b) :: r, ps => by
    show (holdL (swapP ps) b a).bind (fun qs => foldH qs (swapP r)) = _
    rw [holdL_swap]
    simp only [foldH]
    cases holdL ps a b with
    | none => rfl
    | some qs => exact foldH_swap r qs
theorem zip_swap {α β : Type} : ∀ (xs : List α) (ys : List β), ys.zip xs = (xs.zip ys).map fun p => (p.2, p.1)
  | [], [] => rfl
  | [], _ :: _ => rfl
  | _ :: _, [] => rfl
  | x :: xs, y :: ys => by simp [zip_swap xs ys]
theorem evL_swap (ps : List (Int × Int)) (a b : Ev) : evL (swapP ps) b a = (evL ps a b).map swapP := by
  unfold evL
  have e : alikeE b a = alikeE a b := by rw [Bool.eq_iff_iff]; exact ⟨alike_symm, alike_symm⟩
  rw [e]
  split
  · rw [zip_swap]; exact foldH_swap _ _
  · rfl
theorem foldE_swap : ∀ (l : List (Ev × Ev)) (ps : List (Int × Int)), foldE (swapP ps) (l.map fun p => (p.2, p.1)) = (foldE ps l).map swapP
  | [], ps => rfl
  | (a, b) :: r, ps => by
    show (evL (swapP ps) b a).bind (fun qs => foldE qs (r.map fun p => (p.2, p.1))) = _
    rw [evL_swap]
    simp only [foldE]
    cases evL ps a b with
    | none => rfl
    | some qs => exact foldE_swap r qs
theorem match_swap (a b : List Ev) : matchL b a = (matchL a b).map swapP := by
  unfold matchL
  by_cases h : a.length = b.length
  · rw [if_pos h, if_pos h.symm, zip_swap]; exact foldE_swap _ []
  · rw [if_neg h, if_neg (fun e => h e.symm)]; rfl
/-! All match themselves. -/
def Diag (ps : List (Int × Int)) : Prop := ∀ p ∈ ps, p.1 = p.2
theorem holdL_diag {ps : List (Int × Int)} (hd : Diag ps) (a : Int) : ∃ qs, holdL ps a a = some qs ∧ Diag qs := by
  unfold holdL
  rw [if_neg (by simp)]
  by_cases h0 : a = 0
  · rw [if_pos h0]; exact ⟨ps, rfl, hd⟩
  · rw [if_neg h0]
    cases hf : fstF ps a with
    | some p =>
      obtain ⟨h1, h2⟩ := fstF_some hf
      have h3 := hd p h1
      cases hk : sndF ps a with
      | some q =>
        obtain ⟨g1, g2⟩ := sndF_some hk
        have g3 := hd q g1
        refine ⟨ps, ?_, hd⟩
        rw [if_pos (by simp), if_pos]
        simp; omega
      | none => exact absurd (h3 ▸ h2) (sndF_none (by rw [hk]; rfl) p h1)
    | none =>
      cases hk : sndF ps a with
      | some q =>
        obtain ⟨g1, g2⟩ := sndF_some hk
        have g3 := hd q g1
        exact absurd (g3.trans g2) (fstF_none (by rw [hf]; rfl) q g1)
      | none =>
        refine ⟨ps ++ [(a, a)], by simp, fun p hp => ?_⟩
        rcases List.mem_append.1 hp with hp | hp
        · exact hd p hp
        · rw [List.mem_singleton.1 hp]
theorem foldH_diag : ∀ (l : List (Int × Int)) {ps : List (Int × Int)}, Diag ps → Diag l → ∃ qs, foldH ps l = some qs ∧ Diag qs
  | [], ps, hd, _ => ⟨ps, rfl, hd⟩
  | (a, b) :: r, ps, hd, hl => by
    obtain rfl : a = b := hl (a, b) (by simp)
    obtain ⟨qs, h1, h2⟩ := holdL_diag hd a
    obtain ⟨rs, h3, h4⟩ := foldH_diag r h2 (fun p hp => hl p (by simp [hp]))
    exact ⟨rs, by simp only [foldH, h1, Option.bind_some]; exact h3, h4⟩
theorem zip_diag (l : List Int) : Diag (l.zip l) := by
  intro p hp
  obtain ⟨j, hj⟩ := List.getElem?_of_mem hp
  rw [List.getElem?_zip_eq_some] at hj
  have := hj.1.symm.trans hj.2
  simpa using this
theorem foldE_diag : ∀ (l : List (Ev × Ev)) {ps : List (Int × Int)}, Diag ps → (∀ p ∈ l, p.1 = p.2) → ∃ qs, foldE ps l = some qs ∧ Diag qs
  | [], ps, hd, _ => ⟨ps, rfl, hd⟩
  | (a, b) :: r, ps, hd, hl => by
    obtain rfl : a = b := hl (a, b) (by simp)
    obtain ⟨qs, h1, h2⟩ := foldH_diag (a.nums.zip a.nums) hd (zip_diag _)
    obtain ⟨rs, h3, h4⟩ := foldE_diag r h2 (fun p hp => hl p (by simp [hp]))
    have he : evL ps a a = some qs := by unfold evL; rw [if_pos (by simp [alikeE])]; exact h1
    exact ⟨rs, by simp only [foldE, he, Option.bind_some]; exact h3, h4⟩
theorem match_self (a : List Ev) : ∃ qs, matchL a a = some qs ∧ Diag qs := by
  unfold matchL
  rw [if_pos rfl]
  refine foldE_diag _ (by intro p hp; cases hp) fun p hp => ?_
  obtain ⟨j, hj⟩ := List.getElem?_of_mem hp
  rw [List.getElem?_zip_eq_some] at hj
  have := hj.1.symm.trans hj.2
  simpa using this
end Go.Proofs.Ytgjpbhgobjlneaa
