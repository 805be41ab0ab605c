/- Plain law, no program in sight: adding objects till no further ones come ends with what is reached; told in ascending order it is what the search tells. Conditions: none. -/
import Derived.Test.YtgjpbhgobjlneaaPath11
namespace Go.Proofs.Ytgjpbhgobjlneaa
open Go.RowKit Go.Sort
/-- Does an object come, by those from which one starts, or by one of the first k that are in? -/
def comeL (l : List Cl) (frm : List Int) (f : Nat → Bool) (k : Nat) (a : Int) : Bool := (frm.any fun x => x == a) || (List.range k).any fun j => f (j + 1) && ((namesL l ((j : Int) + 1)).any fun x => x == a)
theorem comeL_zero (l : List Cl) (frm : List Int) (f : Nat → Bool) (a : Int) : comeL l frm f 0 a = frm.any fun x => x == a := by simp [comeL]
theorem comeL_succ (l : List Cl) (frm : List Int) (f : Nat → Bool) (k : Nat) (a : Int) : comeL l frm f (k + 1) a = (comeL l frm f k a || (f (k + 1) && ((namesL l ((k : Int) + 1)).any fun x => x == a))) := by
  simp [comeL, List.range_succ, Bool.or_assoc]
theorem comeL_mono (l : List Cl) (frm : List Int) (f : Nat → Bool) (a : Int) {j k : Nat} (hjk : j ≤ k) (h : comeL l frm f j a = true) : comeL l frm f k a = true := by
  induction hjk with
  | refl => exact h
  | step _ ih => rw [comeL_succ, ih]; rfl
theorem any_eq_mem {xs : List Int} {a : Int} : (xs.any fun x => x == a) = true ↔ a ∈ xs := by simp
theorem comeL_iff {l : List Cl} {frm : List Int} {f : Nat → Bool} {k : Nat} {a : Int} : comeL l frm f k a = true ↔ a ∈ frm ∨ ∃ j, j < k ∧ f (j + 1) = true ∧ a ∈ namesL l ((j : Int) + 1) := by
  unfold comeL
  rw [Bool.or_eq_true, any_eq_mem, List.any_eq_true]
  simp only [List.mem_range, Bool.and_eq_true, any_eq_mem]
/-- All that is in is reached. -/
def SoundF (l : List Cl) (frm : List Int) (ar : Int) (f : Nat → Bool) : Prop := ∀ i, f i = true → ∃ k : Nat, i = k + 1 ∧ Rch l frm ar (namesL l) ((k : Int) + 1)
theorem Rch.fit {l : List Cl} {frm : List Int} {ar : Int} {nx : Int → List Int} {a : Int} (h : Rch l frm ar nx a) : fitL l ar a = true := by
  cases h <;> assumption
theorem fitL_nat {l : List Cl} {ar a : Int} (h : fitL l ar a = true) : ∃ k : Nat, k < l.length ∧ a = (k : Int) + 1 := by
  simp only [fitL, Bool.and_eq_true] at h
  have := liveL_range h.2
  exact ⟨(a - 1).toNat, by omega, by omega⟩
theorem SoundF.set {l : List Cl} {frm : List Int} {ar : Int} {f : Nat → Bool} (h : SoundF l frm ar f) {n k : Nat} (hc : comeL l frm f n ((k : Int) + 1) = true) (hf : fitL l ar ((k : Int) + 1) = true) : SoundF l frm ar (fun i => if i = k + 1 then true else f i) := by
  intro i hi
  by_cases e : i = k + 1
  · refine ⟨k, e, ?_⟩
    rcases comeL_iff.1 hc with h1 | ⟨j, _, hj, h1⟩
    · exact .start _ h1 hf
    · obtain ⟨m, hm, hr⟩ := h _ hj
      obtain rfl : j = m := by omega
      exact .step _ _ hr h1 hf
  · simp only [if_neg e] at hi
    exact h i hi
/-- Nothing further comes among the first k. -/
def ClosedF (l : List Cl) (frm : List Int) (ar : Int) (f : Nat → Bool) (k : Nat) : Prop := ∀ i, i < k → comeL l frm f l.length ((i : Int) + 1) = true → fitL l ar ((i : Int) + 1) = true → f (i + 1) = true
theorem ClosedF.all {l : List Cl} {frm : List Int} {ar : Int} {f : Nat → Bool} (h : ClosedF l frm ar f l.length) {a : Int} (hr : Rch l frm ar (namesL l) a) : ∃ k : Nat, k < l.length ∧ a = (k : Int) + 1 ∧ f (k + 1) = true := by
  induction hr with
  | start a h1 h2 =>
    obtain ⟨k, hk, rfl⟩ := fitL_nat h2
    exact ⟨k, hk, rfl, h k hk (comeL_iff.2 (.inl h1)) h2⟩
  | step x a _ h2 h3 ih =>
    obtain ⟨j, hj, rfl, hf⟩ := ih
    obtain ⟨k, hk, rfl⟩ := fitL_nat h3
    exact ⟨k, hk, rfl, h k hk (comeL_iff.2 (.inr ⟨j, hj, hf, h2⟩)) h3⟩
/-- What is in, in ascending order. -/
def inL (f : Nat → Bool) : Nat → List Int
  | 0 => []
  | k + 1 => inL f k ++ if f (k + 1) then [(k : Int) + 1] else []
theorem inL_mem {f : Nat → Bool} : ∀ {k : Nat} {a : Int}, a ∈ inL f k ↔ ∃ i : Nat, i < k ∧ f (i + 1) = true ∧ a = (i : Int) + 1
  | 0, a => by simp [inL]
  | k + 1, a => by
    rw [inL, List.mem_append, inL_mem]
    constructor
    · rintro (⟨i, h1, h2, h3⟩ | h)
      · exact ⟨i, by omega, h2, h3⟩
      · cases hf : f (k + 1)
        · rw [hf] at h; simp at h
        · rw [hf] at h; simp at h; exact ⟨k, by omega, hf, h⟩
    · rintro ⟨i, h1, h2, h3⟩
      by_cases e : i = k
      · subst e; right; rw [h2]; simp [h3]
      · left; exact ⟨i, by omega, h2, h3⟩
theorem inL_sorted (f : Nat → Bool) : ∀ k : Nat, (inL f k).Pairwise (· < ·)
  | 0 => by simp [inL]
  | k + 1 => by
    rw [inL, List.pairwise_append]
    refine ⟨inL_sorted f k, by split <;> simp, fun a ha b hb => ?_⟩
    obtain ⟨i, h1, _, rfl⟩ := inL_mem.1 ha
    split at hb
    · simp at hb; omega
    · simp at hb
theorem inL_len (f : Nat → Bool) : ∀ k : Nat, (inL f k).length ≤ k
  | 0 => by simp [inL]
  | k + 1 => by
    have := inL_len f k
    rw [inL, List.length_append]
    split <;> simp <;> omega
/-- Two ascending lists of the same members are the same. -/
theorem asc_ext : ∀ {xs ys : List Int}, xs.Pairwise (· < ·) → ys.Pairwise (· < ·) → (∀ a, a ∈ xs ↔ a ∈ ys) → xs = ys
  | [], [], _, _, _ => rfl
  | [], y :: ys, _, _, h => by have := (h y).2 (by simp); simp at this
  | x :: xs, [], _, _, h => by have := (h x).1 (by simp); simp at this
  | x :: xs, y :: ys, h1, h2, h => by
    rw [List.pairwise_cons] at h1 h2
    have e : x = y := by
      rcases List.mem_cons.1 ((h x).1 (by simp)) with e | e
      · exact e
      · rcases List.mem_cons.1 ((h y).2 (by simp)) with e' | e'
        · exact e'.symm
        · have a1 := h2.1 x e
          have a2 := h1.1 y e'
          omega
    subst e
    rw [asc_ext h1.2 h2.2 fun a => ⟨fun ha => ?_, fun ha => ?_⟩]
    · rcases List.mem_cons.1 ((h a).1 (by simp [ha])) with e | e
      · subst e; have := h1.1 _ ha; omega
      · exact e
    · rcases List.mem_cons.1 ((h a).2 (by simp [ha])) with e | e
      · subst e; have := h2.1 _ ha; omega
      · exact e
theorem asc_of {xs : List Int} (h1 : xs.Pairwise (· ≤ ·)) (h2 : xs.Nodup) : xs.Pairwise (· < ·) := by
  have := h1.and (List.nodup_iff_pairwise_ne.1 h2)
  exact this.imp fun ⟨a, b⟩ => by omega
theorem reachL_asc (l : List Cl) (frm : List Int) (ar : Int) : (reachL l frm ar).Pairwise (· < ·) :=
  asc_of (sortL_sorted _) ((List.mergeSort_perm _ _).nodup_iff.2 (Neat.spread l frm ar (namesL l)).1)
theorem inL_reach {l : List Cl} {frm : List Int} {ar : Int} {f : Nat → Bool} (hs : SoundF l frm ar f) (hc : ClosedF l frm ar f l.length) : inL f l.length = reachL l frm ar := by
  refine asc_ext (inL_sorted _ _) (reachL_asc _ _ _) fun a => ?_
  rw [inL_mem, reach_mem]
  constructor
  · rintro ⟨i, _, h2, rfl⟩
    obtain ⟨k, hk, hr⟩ := hs _ h2
    obtain rfl : i = k := by omega
    exact hr
  · intro hr
    obtain ⟨k, h1, h2, h3⟩ := hc.all hr
    exact ⟨k, h1, h3, h2⟩
/-- How many are not in. -/
def outN (f : Nat → Bool) : Nat → Nat
  | 0 => 0
  | k + 1 => outN f k + if f (k + 1) then 0 else 1
theorem outN_same {f g : Nat → Bool} : ∀ {k : Nat}, (∀ i, i < k → f (i + 1) = g (i + 1)) → outN f k = outN g k
  | 0, _ => rfl
  | k + 1, h => by rw [outN, outN, outN_same (k := k) fun i hi => h i (by omega), h k (by omega)]
theorem outN_set {f : Nat → Bool} {j : Nat} (hj : f (j + 1) = false) : ∀ {k : Nat}, outN (fun i => if i = j + 1 then true else f i) k + (if j < k then 1 else 0) = outN f k
  | 0 => by simp [outN]
  | k + 1 => by
    rw [outN, outN]
    have ih := outN_set hj (k := k)
    by_cases e : k = j
    · subst e
      rw [if_pos (show k < k + 1 by omega), hj]
      simp at ih ⊢
      omega
    · rw [if_neg (show ¬ k + 1 = j + 1 by omega)]
      split at ih <;> rename_i h1
      · rw [if_pos (show j < k + 1 by omega)]; omega
      · rw [if_neg (show ¬ j < k + 1 by omega)]; omega
end Go.Proofs.Ytgjpbhgobjlneaa
