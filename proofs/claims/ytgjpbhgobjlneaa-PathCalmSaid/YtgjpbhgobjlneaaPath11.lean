/- Plain laws of the search, no program in sight: what is met is what is reached, in whatever order names are taken; a way's neighbours. Conditions: none. -/
import Derived.Test.YtgjpbhgobjlneaaPath8
namespace Go.Proofs.Ytgjpbhgobjlneaa
open Go.RowKit Go.Sort
theorem seen_mem {st : List (Int × Int)} {p : Int × Int} (h : p ∈ st) : seen st p.1 = true := seen_iff.2 (List.mem_map.2 ⟨p, h, rfl⟩)
theorem mem_seen {st : List (Int × Int)} {a : Int} (h : seen st a = true) : ∃ p ∈ st, p.1 = a := by
  obtain ⟨p, hp, e⟩ := List.mem_map.1 (seen_iff.1 h); exact ⟨p, hp, e⟩
theorem seen_map (xs : List Int) (g : Int → Int) (b : Int) : seen (xs.map fun a => (a, g a)) b = true ↔ b ∈ xs := by
  rw [seen_iff, List.map_map]; simp [Function.comp_def]
theorem seen_step {l : List Cl} {ar : Int} {xs : List Int} {st : List (Int × Int)} {x b : Int} : seen (stepL l ar xs st x) b = true ↔ seen st b = true ∨ (b ∈ xs ∧ fitL l ar b = true) := by
  rw [stepL_news, seen_append, Bool.or_eq_true, seen_map _ (fun _ => x), newsL_mem]
  constructor
  · rintro (h | ⟨h1, _, h3⟩)
    · exact .inl h
    · exact .inr ⟨h1, h3⟩
  · rintro (h | ⟨h1, h3⟩)
    · exact .inl h
    · cases hs : seen st b
      · exact .inr ⟨h1, rfl, h3⟩
      · exact .inl rfl
theorem seen_start {l : List Cl} {ar : Int} {frm : List Int} {b : Int} : seen (startL l ar frm) b = true ↔ b ∈ frm ∧ fitL l ar b = true := by
  rw [startL_news, seen_map _ (fun a => a), newsL_mem]
  constructor
  · rintro ⟨h1, _, h3⟩; exact ⟨h1, h3⟩
  · rintro ⟨h1, h3⟩; exact ⟨h1, rfl, h3⟩
/-- What is reached from some objects, around another one. -/
inductive Rch (l : List Cl) (frm : List Int) (ar : Int) (nx : Int → List Int) : Int → Prop
  | start (a : Int) : a ∈ frm → fitL l ar a = true → Rch l frm ar nx a
  | step (x a : Int) : Rch l frm ar nx x → a ∈ nx x → fitL l ar a = true → Rch l frm ar nx a
theorem Rch.mono {l : List Cl} {frm : List Int} {ar : Int} {nx ny : Int → List Int} (h : ∀ x a, a ∈ nx x → a ∈ ny x) {a : Int} (hr : Rch l frm ar nx a) : Rch l frm ar ny a := by
  induction hr with
  | start a h1 h2 => exact .start a h1 h2
  | step x a _ h2 h3 ih => exact .step x a ih (h x a h2) h3
theorem bfs_mono (l : List Cl) (ar : Int) (nx : Int → List Int) {b : Int} : ∀ (f i : Nat) (st : List (Int × Int)), seen st b = true → seen (bfsL l ar nx f i st) b = true
  | 0, _, _, h => h
  | f + 1, i, st, h => by
    rw [bfsL]
    cases hp : st[i]? with
    | none => exact h
    | some p => exact bfs_mono l ar nx f (i + 1) _ (seen_step.2 (.inl h))
theorem bfs_closed (l : List Cl) (ar : Int) (nx : Int → List Int) : ∀ (f i : Nat) (st : List (Int × Int)), Neat l ar st → l.length + 1 ≤ f + i → (∀ (j : Nat) (p : Int × Int), j < i → st[j]? = some p → ∀ b ∈ nx p.1, fitL l ar b = true → seen st b = true) →
    ∀ p ∈ bfsL l ar nx f i st, ∀ b ∈ nx p.1, fitL l ar b = true → seen (bfsL l ar nx f i st) b = true
  | 0, i, st, hne, hf, h => by
    intro p hp b hb hfit
    obtain ⟨j, hj⟩ := List.mem_iff_getElem?.1 (show p ∈ st from hp)
    have := (List.getElem?_eq_some_iff.1 hj).1
    have := hne.len
    exact h j p (by omega) hj b hb hfit
  | f + 1, i, st, hne, hf, h => by
    rw [bfsL]
    cases hp : st[i]? with
    | none =>
      intro p hq b hb hfit
      obtain ⟨j, hj⟩ := List.mem_iff_getElem?.1 (show p ∈ st from hq)
      have h1 := (List.getElem?_eq_some_iff.1 hj).1
      have h2 := List.getElem?_eq_none_iff.1 hp
      exact h j p (by omega) hj b hb hfit
    | some p =>
      refine bfs_closed l ar nx f (i + 1) _ (hne.step _ _) (by omega) fun j q hj hq b hb hfit => ?_
      have hi := (List.getElem?_eq_some_iff.1 hp).1
      rw [stepL_news, List.getElem?_append_left (by omega)] at hq
      rw [seen_step]
      by_cases hji : j = i
      · subst hji
        rw [hp] at hq
        injection hq with hq
        subst hq
        exact .inr ⟨hb, hfit⟩
      · exact .inl (h j q (by omega) hq b hb hfit)
theorem bfs_all (l : List Cl) (ar : Int) (nx : Int → List Int) (I : Int × Int → Prop) (hI : ∀ (st : List (Int × Int)) (x a : Int), seen st x = true → (∀ p ∈ st, I p) → seen st a = false → a ∈ nx x → fitL l ar a = true → I (a, x)) :
    ∀ (f i : Nat) (st : List (Int × Int)), (∀ p ∈ st, I p) → ∀ p ∈ bfsL l ar nx f i st, I p
  | 0, _, _, h => h
  | f + 1, i, st, h => by
    rw [bfsL]
    cases hp : st[i]? with
    | none => exact h
    | some p =>
      refine bfs_all l ar nx I hI f (i + 1) _ fun q hq => ?_
      rw [stepL_news] at hq
      rcases List.mem_append.1 hq with hq | hq
      · exact h q hq
      · obtain ⟨a, ha, rfl⟩ := List.mem_map.1 hq
        obtain ⟨h1, h2, h3⟩ := (newsL_mem l ar _ st a).1 ha
        exact hI st p.1 a (seen_mem (List.mem_of_getElem? hp)) h h2 h1 h3
theorem spread_rch (l : List Cl) (frm : List Int) (ar : Int) (nx : Int → List Int) (a : Int) : seen (spreadL l frm ar nx) a = true ↔ Rch l frm ar nx a := by
  constructor
  · intro h
    obtain ⟨p, hp, rfl⟩ := mem_seen h
    refine bfs_all l ar nx (fun p => Rch l frm ar nx p.1) (fun st x a hx hall _ ha hf => ?_) _ _ _ (fun p hp => ?_) p hp
    · obtain ⟨q, hq, rfl⟩ := mem_seen hx
      exact .step q.1 a (hall q hq) ha hf
    · have := seen_start.1 (seen_mem hp)
      exact .start _ this.1 this.2
  · intro h
    induction h with
    | start a h1 h2 => exact bfs_mono l ar nx _ _ _ (seen_start.2 ⟨h1, h2⟩)
    | step x a _ h2 h3 ih =>
      obtain ⟨p, hp, rfl⟩ := mem_seen ih
      exact bfs_closed l ar nx (l.length + 1) 0 _ (Neat.start l ar frm) (by omega) (fun j p hj => by omega) p hp a h2 h3
theorem sortL_mem {xs : List Int} {a : Int} : a ∈ sortL xs ↔ a ∈ xs := (List.mergeSort_perm _ _).mem_iff
theorem reach_mem (l : List Cl) (frm : List Int) (ar a : Int) : a ∈ reachL l frm ar ↔ Rch l frm ar (namesL l) a := by
  unfold reachL
  rw [sortL_mem, ← seen_iff, spread_rch]
theorem seen_sorted (l : List Cl) (frm : List Int) (ar a : Int) : seen (spreadL l frm ar (sNamesL l)) a = true ↔ Rch l frm ar (namesL l) a := by
  rw [spread_rch]
  exact ⟨Rch.mono fun x a => sortL_mem.1, Rch.mono fun x a => sortL_mem.2⟩
/-- By whom anything is met. -/
def Org (l : List Cl) (frm : List Int) (p : Int × Int) : Prop := (p.2 = p.1 ∧ p.1 ∈ frm) ∨ (p.2 ≠ p.1 ∧ p.1 ∈ namesL l p.2)
theorem spread_org (l : List Cl) (frm : List Int) (ar : Int) : ∀ p ∈ spreadL l frm ar (sNamesL l), Org l frm p := by
  refine bfs_all l ar (sNamesL l) (Org l frm) (fun st x a hx _ hs ha _ => .inr ⟨fun e => ?_, sortL_mem.1 ha⟩) _ _ _ (fun p hp => ?_)
  · have e : x = a := e
    subst e; rw [hx] at hs; cases hs
  · rw [startL_news] at hp
    obtain ⟨a, ha, rfl⟩ := List.mem_map.1 hp
    exact .inl ⟨rfl, ((newsL_mem l ar frm [] a).1 ha).1⟩
theorem way_len (l : List Cl) (tx ar : Int) : 0 < (wayL l tx ar).length ↔ Rch l (rootsL l) ar (namesL l) tx := by
  rw [← seen_sorted]
  unfold wayL wayBy
  cases h : seen (spreadL l (rootsL l) ar (sNamesL l)) tx
  · simp
  · obtain ⟨r, hr⟩ := climb_head (spreadL l (rootsL l) ar (sNamesL l)) (spreadL l (rootsL l) ar (sNamesL l)).length tx
    simp [hr]
/-- A climb: from an object to one that is there from the beginning, each named by the next. -/
def Clm (l : List Cl) (ar : Int) (frm : List Int) : List Int → Prop
  | [] => False
  | [a] => a ∈ frm ∧ a ≠ ar
  | a :: b :: r => a ≠ ar ∧ a ∈ namesL l b ∧ Clm l ar frm (b :: r)
theorem climb_clm {l : List Cl} {ar : Int} {frm : List Int} {st : List (Int × Int)} (h : Neat l ar st) (hb : ByIn st) (ho : ∀ p ∈ st, Org l frm p) : ∀ (i : Nat) (p : Int × Int), st[i]? = some p → Clm l ar frm (climbL st st.length p.1) := by
  intro i
  induction i using Nat.strongRecOn with
  | ind i ih =>
    intro p hp
    have hm := List.mem_of_getElem? hp
    have hf := h.2 p hm
    have hne : p.1 ≠ ar := by simp only [fitL, Bool.and_eq_true] at hf; simpa using hf.1
    by_cases hst : p.2 = p.1
    · rw [climb_stop h hp hst]
      rcases ho p hm with ⟨_, h2⟩ | ⟨h1, _⟩
      · exact ⟨h2, hne⟩
      · exact absurd hst h1
    · obtain ⟨j, q, hj, hq, hqp, hcl⟩ := climb_on h hb hp hst
      rw [hcl]
      have := ih j hj q hq
      obtain ⟨r, hr⟩ := climb_head st st.length q.1
      rw [hr] at this ⊢
      refine ⟨hne, ?_, this⟩
      rcases ho p hm with ⟨h1, _⟩ | ⟨_, h2⟩
      · exact absurd h1 hst
      · rw [hqp]; exact h2
theorem Clm.at_ {l : List Cl} {ar : Int} {frm : List Int} : ∀ {xs : List Int}, Clm l ar frm xs → ∀ (i : Nat) (a : Int), xs[i]? = some a → a ≠ ar ∧ (i + 1 = xs.length → a ∈ frm) ∧ ∀ b, xs[i + 1]? = some b → a ∈ namesL l b
  | [a], h, 0, x, hx => by
    have hx : some a = some x := hx
    injection hx with hx
    subst hx
    exact ⟨h.2, fun _ => h.1, fun b hb => by simp at hb⟩
  | [a], h, i + 1, x, hx => by simp at hx
  | a :: b :: r, h, 0, x, hx => by
    have hx : some a = some x := hx
    injection hx with hx
    subst hx
    exact ⟨h.1, fun e => by simp at e, fun b' hb => by
      have hb : some b = some b' := hb
      injection hb with hb
      subst hb
      exact h.2.1⟩
  | a :: b :: r, h, i + 1, x, hx => by
    have := Clm.at_ h.2.2 i x (by simpa using hx)
    exact ⟨this.1, fun e => this.2.1 (by simp at e ⊢; omega), fun b' hb => this.2.2 b' (by simpa using hb)⟩
/-- What the way's places are. -/
theorem way_at (l : List Cl) (tx ar : Int) (i : Nat) (a : Int) (h : (wayL l tx ar)[i]? = some a) : a ≠ ar ∧ (i = 0 → a ∈ rootsL l) ∧ (i + 1 = (wayL l tx ar).length → a = tx) ∧ ∀ (j : Nat) (b : Int), i = j + 1 → (wayL l tx ar)[j]? = some b → a ∈ namesL l b := by
  revert h
  unfold wayL wayBy
  generalize hsp : spreadL l (rootsL l) ar (sNamesL l) = st
  intro h
  split at h
  · rename_i hs
    have hne : Neat l ar st := hsp ▸ Neat.spread _ _ _ _
    have hby : ByIn st := hsp ▸ ByIn.spread _ _ _ _
    have hor : ∀ p ∈ st, Org l (rootsL l) p := hsp ▸ spread_org _ _ _
    obtain ⟨m, p, hp, rfl⟩ := seen_at hs
    have hc := climb_clm hne hby hor m p hp
    obtain ⟨r, hr⟩ := climb_head st st.length p.1
    generalize hcl : climbL st st.length p.1 = cl at h hc hr ⊢
    rw [if_pos hs]
    have hil := (List.getElem?_eq_some_iff.1 h).1
    rw [List.length_reverse] at hil
    rw [List.getElem?_reverse hil] at h
    have hq := hc.at_ _ a h
    refine ⟨hq.1, fun e => hq.2.1 (by omega), fun e => ?_, fun j b e hb => ?_⟩
    · rw [List.length_reverse] at e
      rw [show cl.length - 1 - i = 0 by omega, hr] at h
      simpa using h.symm
    · rw [List.getElem?_reverse (by omega)] at hb
      exact hq.2.2 b (by rw [show cl.length - 1 - i + 1 = cl.length - 1 - j by omega]; exact hb)
  · simp at h
theorem wildTo_mem (L : List Cl) : ∀ (l : List Cl) (k : Nat) (a : Int), a ∈ wildTo L k l ↔ ∃ (i : Nat) (c : Cl), l[i]? = some c ∧ wildB L (k + i) c = true ∧ a = ((k + i : Nat) : Int) + 1
  | [], k, a => by simp [wildTo]
  | c :: r, k, a => by
    rw [wildTo, List.mem_append, wildTo_mem L r (k + 1) a]
    constructor
    · rintro (h | ⟨i, d, h1, h2, h3⟩)
      · cases hc : wildB L k c
        · rw [hc] at h; simp at h
        · rw [hc] at h; simp at h; exact ⟨0, c, rfl, hc, by omega⟩
      · exact ⟨i + 1, d, by simpa using h1, by rw [show k + (i + 1) = k + 1 + i by omega]; exact h2, by omega⟩
    · rintro ⟨i, d, h1, h2, h3⟩
      cases i with
      | zero =>
        simp at h1
        subst h1
        left
        rw [Nat.add_zero] at h2
        rw [h2]; simp; omega
      | succ i => exact .inr ⟨i, d, by simpa using h1, by rw [show k + 1 + i = k + (i + 1) by omega]; exact h2, by omega⟩
theorem wild_mem (l : List Cl) (k : Nat) (x : Cl) (h : l[k]? = some x) : ((k : Int) + 1 ∈ wildL l) ↔ wildB l k x = true := by
  unfold wildL
  rw [wildTo_mem]
  constructor
  · rintro ⟨i, c, h1, h2, h3⟩
    obtain rfl : i = k := by omega
    rw [h] at h1
    injection h1 with h1
    subst h1
    simpa using h2
  · intro hw
    exact ⟨k, x, h, by simpa using hw, by simp⟩
theorem wildB_way (l : List Cl) (k : Nat) (x : Cl) : wildB l k x = (!x.dead && decide (0 < x.o0) && decide (0 < (wayL l ((k : Int) + 1) x.o0).length)) := by
  unfold wildB
  congr 1
  rw [Bool.eq_iff_iff, decide_eq_true_iff, way_len, ← reach_mem]
  simp [RL]
end Go.Proofs.Ytgjpbhgobjlneaa
