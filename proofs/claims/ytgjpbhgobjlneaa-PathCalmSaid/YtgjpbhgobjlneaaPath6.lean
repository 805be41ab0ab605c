/- Contracts of path.Reach and path.Way. Conditions: fewer than a million objects; the numbers handed in are ints. -/
import Derived.Test.YtgjpbhgobjlneaaPath5
import Derived.Deep.RegionHeld3
namespace Go.Proofs.Ytgjpbhgobjlneaa
open Go.RowKit Go.Sort
def reachL (l : List Cl) (xs : List Int) (ar : Int) : List Int := sortL ((spreadL l xs ar (namesL l)).map (·.1))
theorem own_mono {W : World} {base base' size k : Nat} {e : TypeId} {v : Value} {xs : List Value} (hr : W.ownsRow base e size v k xs) (hb : base' ≤ base) : W.ownsRow base' e size v k xs := by
  refine ⟨hr.1, ?_⟩
  rcases hr.2 with h | ⟨g, cap, cur, h1, h2, h3⟩
  · exact .inl h
  · exact .inr ⟨g, cap, cur, h1, Nat.le_trans hb h2, h3⟩
theorem keysV_eq (st : List (Int × Int)) : keysV st = (st.map (·.1)).map (Value.int .i64) := by simp [keysV]
def ByIn (st : List (Int × Int)) : Prop := ∀ (i : Nat) (p : Int × Int), st[i]? = some p → p.2 = p.1 ∨ ∃ (j : Nat) (q : Int × Int), j < i ∧ st[j]? = some q ∧ q.1 = p.2
theorem ByIn.meets {st : List (Int × Int)} (h : ByIn st) {x : Int} (hx : ∃ q ∈ st, q.1 = x) (ns : List Int) : ByIn (st ++ ns.map fun a => (a, x)) := by
  intro i p hp
  by_cases hi : i < st.length
  · rw [List.getElem?_append_left hi] at hp
    rcases h i p hp with h | ⟨j, q, hj, hq, e⟩
    · exact .inl h
    · exact .inr ⟨j, q, hj, by rw [List.getElem?_append_left (by omega)]; exact hq, e⟩
  · rw [List.getElem?_append_right (by omega), List.getElem?_map] at hp
    obtain ⟨a, ha, rfl⟩ := Option.map_eq_some_iff.1 hp
    obtain ⟨q, hq, hqx⟩ := hx
    obtain ⟨j, hj⟩ := List.mem_iff_getElem?.1 hq
    have := (List.getElem?_eq_some_iff.1 hj).1
    exact .inr ⟨j, q, by omega, by rw [List.getElem?_append_left this]; exact hj, hqx⟩
theorem ByIn.start (l : List Cl) (ar : Int) (frm : List Int) : ByIn (startL l ar frm) := by
  intro i p hp
  rw [startL_news, List.getElem?_map] at hp
  obtain ⟨a, ha, rfl⟩ := Option.map_eq_some_iff.1 hp
  exact .inl rfl
theorem ByIn.bfs (l : List Cl) (ar : Int) (nx : Int → List Int) : ∀ (f i : Nat) (st : List (Int × Int)), ByIn st → ByIn (bfsL l ar nx f i st)
  | 0, _, _, h => h
  | f + 1, i, st, h => by
    rw [bfsL]
    cases hp : st[i]? with
    | none => exact h
    | some p =>
      refine ByIn.bfs l ar nx f (i + 1) _ ?_
      rw [stepL_news]
      exact h.meets ⟨p, List.mem_of_getElem? hp, rfl⟩ _
theorem ByIn.spread (l : List Cl) (frm : List Int) (ar : Int) (nx : Int → List Int) : ByIn (spreadL l frm ar nx) := ByIn.bfs l ar nx _ _ _ (ByIn.start l ar frm)
theorem Neat.bfs (l : List Cl) (ar : Int) (nx : Int → List Int) : ∀ (f i : Nat) (st : List (Int × Int)), Neat l ar st → Neat l ar (bfsL l ar nx f i st)
  | 0, _, _, h => h
  | f + 1, i, st, h => by
    rw [bfsL]
    cases hp : st[i]? with
    | none => exact h
    | some p => exact Neat.bfs l ar nx f (i + 1) _ (h.step _ _)
theorem Neat.spread (l : List Cl) (frm : List Int) (ar : Int) (nx : Int → List Int) : Neat l ar (spreadL l frm ar nx) := Neat.bfs l ar nx _ _ _ (Neat.start l ar frm)
/-- By whom an object was met. -/
def byG (st : List (Int × Int)) (t : Int) : Int := ((st.find? fun p => p.1 == t).map (·.2)).getD 0
def climbL (st : List (Int × Int)) : Nat → Int → List Int
  | 0, t => [t]
  | f + 1, t => if byG st t = t then [t] else t :: climbL st f (byG st t)
theorem find_at {l : List Cl} {ar : Int} {st : List (Int × Int)} (h : Neat l ar st) {i : Nat} {p : Int × Int} (hp : st[i]? = some p) : (st.find? fun q => q.1 == p.1) = some p := by
  cases hf : st.find? fun q => q.1 == p.1 with
  | none => have := List.find?_eq_none.1 hf p (List.mem_of_getElem? hp); simp at this
  | some q =>
    have h1 := List.find?_some hf
    have h2 := List.mem_of_find?_eq_some hf
    simp at h1
    obtain ⟨j, hj⟩ := List.mem_iff_getElem?.1 h2
    have h3 := h.1
    have a1 := (List.getElem?_eq_some_iff.1 hp).1
    have a2 := (List.getElem?_eq_some_iff.1 hj).1
    have := (List.nodup_iff_pairwise_ne.1 h3)
    by_cases hij : i = j
    · subst hij; rw [hp] at hj; injection hj with hj; rw [hj]
    · exfalso
      rcases Nat.lt_or_gt_of_ne hij with hlt | hlt
      · have := List.pairwise_iff_getElem.1 this i j (by simpa using a1) (by simpa using a2) hlt
        simp at this
        rw [(List.getElem?_eq_some_iff.1 hp).2, (List.getElem?_eq_some_iff.1 hj).2] at this
        exact this h1.symm
      · have := List.pairwise_iff_getElem.1 this j i (by simpa using a2) (by simpa using a1) hlt
        simp at this
        rw [(List.getElem?_eq_some_iff.1 hp).2, (List.getElem?_eq_some_iff.1 hj).2] at this
        exact this h1
theorem byG_at {l : List Cl} {ar : Int} {st : List (Int × Int)} (h : Neat l ar st) {i : Nat} {p : Int × Int} (hp : st[i]? = some p) : byG st p.1 = p.2 := by
  unfold byG; rw [find_at h hp]; rfl
theorem byF_at {l : List Cl} {ar : Int} {st : List (Int × Int)} (h : Neat l ar st) {i : Nat} {p : Int × Int} (hp : st[i]? = some p) : byF st p.1 = some (.int .i64 p.2) := by
  unfold byF; rw [find_at h hp]; rfl
theorem climb_fuel {l : List Cl} {ar : Int} {st : List (Int × Int)} (h : Neat l ar st) (hb : ByIn st) : ∀ (i f g : Nat) (p : Int × Int), st[i]? = some p → i ≤ f → i ≤ g → climbL st f p.1 = climbL st g p.1 := by
  intro i
  induction i using Nat.strongRecOn with
  | ind i ih =>
    intro f g p hp hf hg
    have e := byG_at h hp
    rcases hb i p hp with h0 | ⟨j, q, hj, hq, hqp⟩
    · have : ∀ f, climbL st f p.1 = [p.1] := fun f => by cases f with
        | zero => rfl
        | succ f => rw [climbL, e, if_pos h0]
      rw [this, this]
    · obtain ⟨f, rfl⟩ : ∃ m, f = m + 1 := ⟨f - 1, by omega⟩
      obtain ⟨g, rfl⟩ : ∃ m, g = m + 1 := ⟨g - 1, by omega⟩
      rw [climbL, climbL, e, ← hqp, ih j hj f g q hq (by omega) (by omega)]
theorem climb_head (st : List (Int × Int)) (f : Nat) (t : Int) : ∃ r, climbL st f t = t :: r := by
  cases f with
  | zero => exact ⟨_, rfl⟩
  | succ f => rw [climbL]; split <;> exact ⟨_, rfl⟩
theorem climb_len (st : List (Int × Int)) : ∀ (f : Nat) (t : Int), (climbL st f t).length ≤ f + 1
  | 0, t => by simp [climbL]
  | f + 1, t => by
    rw [climbL]
    split
    · simp
    · have := climb_len st f (byG st t); simp; omega
theorem climb_on {l : List Cl} {ar : Int} {st : List (Int × Int)} (h : Neat l ar st) (hb : ByIn st) {i : Nat} {p : Int × Int} (hp : st[i]? = some p) (hne : p.2 ≠ p.1) :
    ∃ j q, j < i ∧ st[j]? = some q ∧ q.1 = p.2 ∧ climbL st st.length p.1 = p.1 :: climbL st st.length q.1 := by
  rcases hb i p hp with h0 | ⟨j, q, hj, hq, hqp⟩
  · exact absurd h0 hne
  · refine ⟨j, q, hj, hq, hqp, ?_⟩
    have hi := (List.getElem?_eq_some_iff.1 hp).1
    obtain ⟨n, hn⟩ : ∃ n, st.length = n + 1 := ⟨st.length - 1, by omega⟩
    have e : climbL st (n + 1) p.1 = p.1 :: climbL st n q.1 := by rw [climbL, byG_at h hp, if_neg hne, hqp]
    rw [hn, e, climb_fuel h hb j n (n + 1) q hq (by omega) (by omega)]
theorem climb_stop {l : List Cl} {ar : Int} {st : List (Int × Int)} (h : Neat l ar st) {i : Nat} {p : Int × Int} (hp : st[i]? = some p) (he : p.2 = p.1) (f : Nat) : climbL st f p.1 = [p.1] := by
  cases f with
  | zero => rfl
  | succ f => rw [climbL, byG_at h hp, if_pos he]
def wayBy (st : List (Int × Int)) (to : Int) : List Int := if seen st to then (climbL st st.length to).reverse else []
def wayL (l : List Cl) (to ar : Int) : List Int := wayBy (spreadL l (rootsL l) ar (sNamesL l)) to
section
variable (l : List Cl) (A : Option Addr) (c B : Nat) (w : World)
set_option maxRecDepth 100000 in
set_option maxHeartbeats 4000000 in
theorem pReach_any (xs : List Int) (XA : Option Addr) (xc XB : Nat) (ar : Int) (h : Hp w B A l) (hn : l.length ≤ 1000000) (hx : SlB intC 1 w XB XA xs) (hxn : xs.length ≤ 1000000) (hxw : ∀ a ∈ xs, (Lit.int .i64 a).wf = true) :
    Calls Try.prog 22 #[.slice A l.length c, .slice XA xs.length xc, .int .i64 ar] w (IntsPost (reachL l xs ar) w) := by
  have H := Lib.hid h
  have HX := Lib.hid hx
  have HXW := Lib.hid hxw
  have HL := Lib.hid (Nat.le_trans (Neat.spread l xs ar (namesL l)).len hn)
  obtain ⟨ks, hks⟩ : ∃ ks, (spreadL l xs ar (namesL l)).map (·.1) = ks := ⟨_, rfl⟩
  have HKS := Lib.hid hks
  have HKL := Lib.hid (show (spreadL l xs ar (namesL l)).length = ks.length by rw [← hks, List.length_map])
  clear h hx hxw hks
  go_enter Try.func22, Try.ntmps22
  go_wp2_with (first
    | (go_at_call 38; refine (spreadR_any l A c B _ w.heap.size xs XA xc XB ar (H.out.grw ((Grw.refl _).alloc _)) hn (HX.out.alloc _) hxn HXW.out (Boxed.new _ _ _)).mono ?_; rintro e w' ⟨OA, oc, rfl, _, ho, hg⟩; rw [HKL.out]; rw [HKL.out, keysV_eq, HKS.out] at ho; have HO := Lib.hid (own_mono ho (show w.heap.size ≤ (w.alloc (.cells #[.slice A l.length c] 38)).heap.size + 5 by rw [World.size_alloc]; omega)); have HG := Lib.hid (((Grw.refl w).alloc _).trans hg); clear ho hg)
    | (go_at_call 40; refine (sort_any _ _ _ _ _ HO.out (HKL.out ▸ HL.out)).mono ?_; rintro e w'' ⟨rfl, ho', hgr⟩; have HO' := Lib.hid ho'; have HG' := Lib.hid (Grw.grown HG.out hgr (own_beyond HO.out)); clear ho' hgr))
  go_ret
  exact ⟨_, _, by unfold reachL; rw [HKS.out, sortL_len]; rfl, HG'.out, by unfold reachL; rw [HKS.out, sortL_len]; exact HO'.out⟩
end
end Go.Proofs.Ytgjpbhgobjlneaa
