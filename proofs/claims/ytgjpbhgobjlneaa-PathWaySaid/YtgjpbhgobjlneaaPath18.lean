/- Plain law, no program in sight: how far each object is from an end, and the least way on, is the way that the search tells. Conditions: none. -/
import Derived.Test.YtgjpbhgobjlneaaPath17
namespace Go.Proofs.Ytgjpbhgobjlneaa
open Go.RowKit Go.Sort
/-- A way down of k objects, from v to the end. -/
def PathN (l : List Cl) (ar tx : Int) : Nat → Int → Prop
  | 0, _ => False
  | 1, v => v = tx ∧ fitL l ar v = true
  | k + 2, v => fitL l ar v = true ∧ ∃ u ∈ namesL l v, PathN l ar tx (k + 1) u
def MinP (l : List Cl) (ar tx : Int) (k : Nat) (v : Int) : Prop := PathN l ar tx k v ∧ ∀ j, j < k → ¬ PathN l ar tx j v
theorem PathN.pos {l : List Cl} {ar tx : Int} {k : Nat} {v : Int} (h : PathN l ar tx k v) : 0 < k := by
  cases k with
  | zero => exact h.elim
  | succ k => omega
theorem PathN.fit {l : List Cl} {ar tx : Int} {v : Int} : ∀ {k : Nat}, PathN l ar tx k v → fitL l ar v = true
  | 1, h => h.2
  | _ + 2, h => h.1
theorem PathN.cons {l : List Cl} {ar tx : Int} {k : Nat} {u v : Int} (h : PathN l ar tx k u) (hf : fitL l ar v = true) (hu : u ∈ namesL l v) : PathN l ar tx (k + 1) v := by
  cases k with
  | zero => exact h.elim
  | succ k => exact ⟨hf, u, hu, h⟩
theorem PathN.step {l : List Cl} {ar tx : Int} {k : Nat} {v : Int} (h : PathN l ar tx (k + 1) v) : (k = 0 ∧ v = tx) ∨ ∃ u ∈ namesL l v, PathN l ar tx k u := by
  cases k with
  | zero => exact .inl ⟨rfl, h.1⟩
  | succ k => exact .inr h.2
theorem min_of {l : List Cl} {ar tx : Int} {v : Int} : ∀ {k : Nat}, PathN l ar tx k v → ∃ j, j ≤ k ∧ MinP l ar tx j v := by
  intro k
  induction k using Nat.strongRecOn with
  | ind k ih =>
    intro h
    by_cases hm : ∃ j, j < k ∧ PathN l ar tx j v
    · obtain ⟨j, hj, hp⟩ := hm
      obtain ⟨i, hi, h2⟩ := ih j hj hp
      exact ⟨i, by omega, h2⟩
    · exact ⟨k, Nat.le_refl _, h, fun j hj hp => hm ⟨j, hj, hp⟩⟩
theorem MinP.inj {l : List Cl} {ar tx : Int} {v : Int} {j k : Nat} (h1 : MinP l ar tx j v) (h2 : MinP l ar tx k v) : j = k := by
  rcases Nat.lt_trichotomy j k with h | h | h
  · exact absurd h1.1 (h2.2 j h)
  · exact h
  · exact absurd h2.1 (h1.2 k h)
theorem MinP.list {l : List Cl} {ar tx : Int} : ∀ {k : Nat} {v : Int}, MinP l ar tx k v → ∃ xs : List Int, xs.length = k ∧ xs.Nodup ∧ (∀ x ∈ xs, fitL l ar x = true ∧ ∃ j, j ≤ k ∧ MinP l ar tx j x)
  | 0, _, h => h.1.elim
  | 1, v, h => ⟨[v], rfl, by simp, fun x hx => by simp at hx; subst hx; exact ⟨h.1.2, 1, Nat.le_refl _, h⟩⟩
  | k + 2, v, h => by
    obtain ⟨hf, u, hu, hp⟩ := h.1
    have hmu : MinP l ar tx (k + 1) u := ⟨hp, fun j hj hq => h.2 (j + 1) (by omega) (hq.cons hf hu)⟩
    obtain ⟨xs, h1, h2, h3⟩ := MinP.list hmu
    refine ⟨v :: xs, by simp [h1], List.nodup_cons.2 ⟨fun hv => ?_, h2⟩, fun x hx => ?_⟩
    · obtain ⟨_, j, hj, hq⟩ := h3 v hv
      have := hq.inj h
      omega
    · rcases List.mem_cons.1 hx with rfl | hx
      · exact ⟨hf, k + 2, Nat.le_refl _, h⟩
      · obtain ⟨a, j, hj, hq⟩ := h3 x hx
        exact ⟨a, j, by omega, hq⟩
theorem MinP.le {l : List Cl} {ar tx : Int} {k : Nat} {v : Int} (h : MinP l ar tx k v) : k ≤ l.length := by
  obtain ⟨xs, h1, h2, h3⟩ := h.list
  rw [← h1]
  refine nodup_range _ xs h2 fun a ha => ?_
  have := (h3 a ha).1
  simp only [fitL, Bool.and_eq_true] at this
  exact liveL_range this.2
/-! ### How far: the table -/
/-- Index i of the table is right for all ways shorter than b. -/
def FarI (l : List Cl) (ar tx : Int) (g : Nat → Nat) (b i : Nat) : Prop := (g i = 0 ∧ ∀ j, j < b → ¬ PathN l ar tx j (i : Int)) ∨ (g i < b ∧ MinP l ar tx (g i) (i : Int))
theorem FarI.set {l : List Cl} {ar tx : Int} {g : Nat → Nat} {b k : Nat} (h : FarI l ar tx g b k) (h0 : g k = 0) (hp : PathN l ar tx b (k : Int)) : MinP l ar tx b (k : Int) := by
  rcases h with ⟨_, h⟩ | ⟨_, h⟩
  · exact ⟨hp, h⟩
  · rw [h0] at h; exact h.1.elim
theorem FarI.up {l : List Cl} {ar tx : Int} {g : Nat → Nat} {b k : Nat} (h : FarI l ar tx g b k) (h0 : g k = 0 → ¬ PathN l ar tx b (k : Int)) : FarI l ar tx g (b + 1) k := by
  rcases h with ⟨h1, h⟩ | ⟨h1, h⟩
  · refine .inl ⟨h1, fun j hj hp => ?_⟩
    by_cases e : j = b
    · subst e; exact h0 h1 hp
    · exact h j (by omega) hp
  · exact .inr ⟨by omega, h⟩
/-- In the round b, the first k looked at. -/
structure FSt (l : List Cl) (ar tx : Int) (g : Nat → Nat) (b k : Nat) : Prop where
  done : ∀ i, i ≤ k → FarI l ar tx g (b + 1) i
  left : ∀ i, k < i → FarI l ar tx g b i
  z : g 0 = 0
theorem namesL_nat {l : List Cl} {v u : Int} (h : u ∈ namesL l v) : ∃ k : Nat, k < l.length ∧ u = ((k + 1 : Nat) : Int) := by
  have := liveL_range (namesL_live h).1
  exact ⟨(u - 1).toNat, by omega, by omega⟩
/-- Among the first m names of an object: is there one that is one nearer? -/
def hitB (l : List Cl) (g : Nat → Nat) (b : Nat) (v : Int) (m : Nat) : Bool := ((namesL l v).take m).any fun u => g u.toNat == b - 1
theorem FSt.hit {l : List Cl} {ar tx : Int} {g : Nat → Nat} {b k : Nat} (hb : 2 ≤ b) (h : FSt l ar tx g b k) {u : Int} (hu : u ∈ namesL l ((k + 1 : Nat) : Int)) (hg : g u.toNat = b - 1) (har : ((k + 1 : Nat) : Int) ≠ ar) : PathN l ar tx b ((k + 1 : Nat) : Int) := by
  obtain ⟨b, rfl⟩ : ∃ c, b = c + 1 := ⟨b - 1, by omega⟩
  obtain ⟨m, _, rfl⟩ := namesL_nat hu
  rw [Int.toNat_natCast] at hg
  have hp : PathN l ar tx b ((m + 1 : Nat) : Int) := by
    have : FarI l ar tx g (b + 1) (m + 1) ∨ FarI l ar tx g (b + 1 + 1) (m + 1) := by
      by_cases hm : m + 1 ≤ k
      · exact .inr (h.done _ hm)
      · exact .inl (h.left _ (by omega))
    rcases this with (⟨h0, _⟩ | ⟨_, h1⟩) | (⟨h0, _⟩ | ⟨_, h1⟩)
    · omega
    · rw [hg] at h1; exact h1.1
    · omega
    · rw [hg] at h1; exact h1.1
  refine hp.cons ?_ hu
  simp only [fitL, Bool.and_eq_true]
  exact ⟨by simpa using har, (namesL_live hu).2⟩
theorem FSt.miss {l : List Cl} {ar tx : Int} {g : Nat → Nat} {b k : Nat} (hb : 2 ≤ b) (h : FSt l ar tx g b k) (h0 : g (k + 1) = 0) (hno : ∀ u ∈ namesL l ((k + 1 : Nat) : Int), g u.toNat ≠ b - 1) : ¬ PathN l ar tx b ((k + 1 : Nat) : Int) := by
  obtain ⟨b, rfl⟩ : ∃ c, b = c + 2 := ⟨b - 2, by omega⟩
  rintro ⟨hf, u, hu, hp⟩
  have hno := hno u hu
  obtain ⟨m, _, rfl⟩ := namesL_nat hu
  rw [Int.toNat_natCast] at hno
  have h1 := h.left (k + 1) (by omega)
  have hk : ∀ j, j < b + 2 → ¬ PathN l ar tx j ((k + 1 : Nat) : Int) := by
    rcases h1 with ⟨_, h1⟩ | ⟨_, h1⟩
    · exact h1
    · rw [h0] at h1; exact h1.1.elim
  have hm : MinP l ar tx (b + 1) ((m + 1 : Nat) : Int) := ⟨hp, fun j hj hq => hk (j + 1) (by omega) (hq.cons hf hu)⟩
  have : FarI l ar tx g (b + 2) (m + 1) ∨ FarI l ar tx g (b + 2 + 1) (m + 1) := by
    by_cases hm : m + 1 ≤ k
    · exact .inr (h.done _ hm)
    · exact .inl (h.left _ (by omega))
  rcases this with (⟨_, h1⟩ | ⟨_, h1⟩) | (⟨_, h1⟩ | ⟨_, h1⟩)
  · exact h1 (b + 1) (by omega) hp
  · have := hm.inj h1; omega
  · exact h1 (b + 1) (by omega) hp
  · have := hm.inj h1; omega
theorem FSt.skip {l : List Cl} {ar tx : Int} {g : Nat → Nat} {b k : Nat} (h : FSt l ar tx g b k) (h0 : g (k + 1) = 0 → ¬ PathN l ar tx b ((k + 1 : Nat) : Int)) : FSt l ar tx g b (k + 1) :=
  ⟨fun i hi => by
    by_cases e : i = k + 1
    · subst e; exact (h.left _ (by omega)).up h0
    · exact h.done i (by omega), fun i hi => h.left i (by omega), h.z⟩
theorem FarI.congr {l : List Cl} {ar tx : Int} {g f : Nat → Nat} {b i : Nat} (h : FarI l ar tx g b i) (e : f i = g i) : FarI l ar tx f b i := by
  unfold FarI; rw [e]; exact h
theorem FSt.set {l : List Cl} {ar tx : Int} {g : Nat → Nat} {b k : Nat} (h : FSt l ar tx g b k) (h0 : g (k + 1) = 0) (hp : PathN l ar tx b ((k + 1 : Nat) : Int)) : FSt l ar tx (fun i => if i = k + 1 then b else g i) b (k + 1) :=
  ⟨fun i hi => by
    by_cases e : i = k + 1
    · subst e
      refine .inr ⟨by simp, ?_⟩
      simp only [if_pos]
      exact (h.left (k + 1) (by omega)).set h0 hp
    · exact (h.done i (by omega)).congr (by simp [e]), fun i hi => (h.left i (by omega)).congr (by rw [if_neg (by omega)]), by simp [h.z]⟩
/-- The table is right. -/
def FarT (l : List Cl) (ar tx : Int) (g : Nat → Nat) : Prop := ∀ i : Nat, (g i = 0 ∧ ∀ j, ¬ PathN l ar tx j (i : Int)) ∨ MinP l ar tx (g i) (i : Int)
theorem PathN.range {l : List Cl} {ar tx : Int} {k : Nat} {v : Int} (h : PathN l ar tx k v) : 0 < v ∧ v ≤ l.length := by
  have := h.fit
  simp only [fitL, Bool.and_eq_true] at this
  exact liveL_range this.2
theorem FSt.next {l : List Cl} {ar tx : Int} {g : Nat → Nat} {b : Nat} (h : FSt l ar tx g b l.length) : FSt l ar tx g (b + 1) 0 :=
  ⟨fun i hi => by
    obtain rfl : i = 0 := by omega
    exact .inl ⟨h.z, fun j _ hp => by have := hp.range; omega⟩, fun i hi => by
    by_cases hl : i ≤ l.length
    · exact h.done i hl
    · exact (h.left i (by omega)).up fun _ hp => by have := hp.range; omega, h.z⟩
theorem FSt.start {l : List Cl} {ar : Int} {t : Nat} (hf : fitL l ar ((t + 1 : Nat) : Int) = true) : FSt l ar ((t + 1 : Nat) : Int) (fun i => if i = t + 1 then 1 else 0) 2 0 :=
  ⟨fun i hi => by
    obtain rfl : i = 0 := by omega
    exact .inl ⟨by simp, fun j _ hp => by have := hp.range; omega⟩, fun i hi => by
    by_cases e : i = t + 1
    · subst e
      refine .inr ⟨by simp, ?_⟩
      simp only [if_pos]
      exact ⟨⟨rfl, hf⟩, fun j hj hp => by have := hp.pos; omega⟩
    · refine .inl ⟨by simp [e], fun j hj hp => ?_⟩
      have := hp.pos
      obtain rfl : j = 1 := by omega
      exact e (by have := hp.1; omega), by simp⟩
theorem FSt.all {l : List Cl} {ar tx : Int} {g : Nat → Nat} {b k : Nat} (h : FSt l ar tx g b k) (hb : l.length + 1 ≤ b) : FarT l ar tx g := by
  intro i
  have : ∀ c, l.length + 1 ≤ c → FarI l ar tx g c i → (g i = 0 ∧ ∀ j, ¬ PathN l ar tx j (i : Int)) ∨ MinP l ar tx (g i) (i : Int) := fun c hc h => by
    rcases h with ⟨h0, h1⟩ | ⟨_, h1⟩
    · refine .inl ⟨h0, fun j hp => ?_⟩
      obtain ⟨m, _, hm⟩ := min_of hp
      exact h1 m (by have := hm.le; omega) hm.1
    · exact .inr h1
  by_cases hk : i ≤ k
  · exact this _ (by omega) (h.done i hk)
  · exact this _ hb (h.left i (by omega))
theorem FarT.of_path {l : List Cl} {ar tx : Int} {g : Nat → Nat} (h : FarT l ar tx g) {k : Nat} {v : Int} (hp : PathN l ar tx k v) : 0 < g v.toNat ∧ g v.toNat ≤ k := by
  have hv := hp.range
  have e : ((v.toNat : Nat) : Int) = v := by omega
  rcases h v.toNat with ⟨_, h1⟩ | h1
  · rw [e] at h1; exact absurd hp (h1 k)
  · rw [e] at h1
    refine ⟨h1.1.pos, ?_⟩
    rcases Nat.lt_or_ge k (g v.toNat) with h2 | h2
    · exact absurd hp (h1.2 k h2)
    · exact h2
theorem FarT.min {l : List Cl} {ar tx : Int} {g : Nat → Nat} (h : FarT l ar tx g) {v : Int} (h0 : 0 ≤ v) (hg : 0 < g v.toNat) : MinP l ar tx (g v.toNat) v := by
  have e : ((v.toNat : Nat) : Int) = v := by omega
  rcases h v.toNat with ⟨h1, _⟩ | h1
  · omega
  · rw [e] at h1; exact h1
/-! ### The least way on -/
def leastL (p : Int → Bool) (xs : List Int) : Int := xs.foldl (fun n u => if p u && (n == 0 || decide (u < n)) then u else n) 0
def bestL (g : Nat → Nat) (xs : List Int) : Int := xs.foldl (fun n u => if decide (0 < g u.toNat) && (n == 0 || decide (g u.toNat < g n.toNat)) then u else n) 0
theorem leastL_snoc (p : Int → Bool) (xs : List Int) (u : Int) : leastL p (xs ++ [u]) = if p u && (leastL p xs == 0 || decide (u < leastL p xs)) then u else leastL p xs := by simp [leastL]
theorem bestL_snoc (g : Nat → Nat) (xs : List Int) (u : Int) : bestL g (xs ++ [u]) = if decide (0 < g u.toNat) && (bestL g xs == 0 || decide (g u.toNat < g (bestL g xs).toNat)) then u else bestL g xs := by simp [bestL]
theorem snocInd {α : Type} {M : List α → Prop} (h0 : M []) (h1 : ∀ xs u, M xs → M (xs ++ [u])) (xs : List α) : M xs := by
  rw [← List.reverse_reverse xs]
  induction xs.reverse with
  | nil => exact h0
  | cons a r ih => rw [List.reverse_cons]; exact h1 _ _ ih
theorem leastL_spec (p : Int → Bool) (xs : List Int) : (∀ u ∈ xs, 0 < u) → (leastL p xs = 0 ∧ ∀ u ∈ xs, p u = false) ∨ (leastL p xs ∈ xs ∧ p (leastL p xs) = true ∧ ∀ u ∈ xs, p u = true → leastL p xs ≤ u) := by
  refine snocInd (M := fun xs => (∀ u ∈ xs, 0 < u) → (leastL p xs = 0 ∧ ∀ u ∈ xs, p u = false) ∨ (leastL p xs ∈ xs ∧ p (leastL p xs) = true ∧ ∀ u ∈ xs, p u = true → leastL p xs ≤ u)) (fun _ => .inl ⟨rfl, fun u hu => by simp at hu⟩) (fun xs u ih hpos => ?_) xs
  have ih := ih fun u hu => hpos u (by simp [hu])
  rw [leastL_snoc]
  cases hp : p u
  · simp only [Bool.false_and, Bool.false_eq_true, if_false]
    rcases ih with ⟨h1, h2⟩ | ⟨h1, h2, h3⟩
    · refine .inl ⟨h1, fun v hv => ?_⟩
      rcases List.mem_append.1 hv with hv | hv
      · exact h2 v hv
      · simp at hv; subst hv; exact hp
    · refine .inr ⟨by simp [h1], h2, fun v hv hpv => ?_⟩
      rcases List.mem_append.1 hv with hv | hv
      · exact h3 v hv hpv
      · simp at hv; subst hv; rw [hp] at hpv; cases hpv
  · rcases ih with ⟨h1, h2⟩ | ⟨h1, h2, h3⟩
    · rw [h1]
      simp only [beq_self_eq_true, Bool.true_or, Bool.and_self, if_true]
      refine .inr ⟨by simp, hp, fun v hv hpv => ?_⟩
      rcases List.mem_append.1 hv with hv | hv
      · rw [h2 v hv] at hpv; cases hpv
      · simp at hv; subst hv; exact Int.le_refl _
    · have hn0 : (leastL p xs == 0) = false := by have := hpos _ (List.mem_append_left [u] h1); simp; omega
      rw [hn0]
      by_cases hlt : u < leastL p xs
      · rw [decide_eq_true hlt]
        refine .inr ⟨by simp, by simpa using hp, fun v hv hpv => ?_⟩
        simp only [Bool.or_true, Bool.and_self, if_true]
        rcases List.mem_append.1 hv with hv | hv
        · have := h3 v hv hpv; omega
        · simp at hv; subst hv; exact Int.le_refl _
      · rw [decide_eq_false hlt]
        refine .inr ⟨by simp [h1], by simpa using h2, fun v hv hpv => ?_⟩
        simp only [Bool.or_false, Bool.and_false, Bool.false_eq_true, if_false]
        rcases List.mem_append.1 hv with hv | hv
        · exact h3 v hv hpv
        · simp at hv; subst hv; omega
theorem bestL_spec (g : Nat → Nat) (xs : List Int) : (∀ u ∈ xs, 0 < u) → xs.Pairwise (· < ·) → (bestL g xs = 0 ∧ ∀ u ∈ xs, g u.toNat = 0) ∨ (bestL g xs ∈ xs ∧ 0 < g (bestL g xs).toNat ∧ ∀ u ∈ xs, 0 < g u.toNat → g (bestL g xs).toNat ≤ g u.toNat ∧ (g (bestL g xs).toNat = g u.toNat → bestL g xs ≤ u)) := by
  refine snocInd (M := fun xs => (∀ u ∈ xs, 0 < u) → xs.Pairwise (· < ·) → (bestL g xs = 0 ∧ ∀ u ∈ xs, g u.toNat = 0) ∨ (bestL g xs ∈ xs ∧ 0 < g (bestL g xs).toNat ∧ ∀ u ∈ xs, 0 < g u.toNat → g (bestL g xs).toNat ≤ g u.toNat ∧ (g (bestL g xs).toNat = g u.toNat → bestL g xs ≤ u))) (fun _ _ => .inl ⟨rfl, fun u hu => by simp at hu⟩) (fun xs u ih hpos hpw => ?_) xs
  rw [List.pairwise_append] at hpw
  have ih := ih (fun u hu => hpos u (by simp [hu])) hpw.1
  have hlu : ∀ v ∈ xs, v < u := fun v hv => hpw.2.2 v hv u (by simp)
  rw [bestL_snoc]
  by_cases hp : 0 < g u.toNat
  · rw [decide_eq_true hp]
    rcases ih with ⟨h1, h2⟩ | ⟨h1, h2, h3⟩
    · rw [h1]
      simp only [beq_self_eq_true, Bool.true_or, Bool.and_self, if_true]
      refine .inr ⟨by simp, hp, fun v hv hpv => ?_⟩
      rcases List.mem_append.1 hv with hv | hv
      · rw [h2 v hv] at hpv; omega
      · simp at hv; subst hv; exact ⟨Nat.le_refl _, fun _ => Int.le_refl _⟩
    · have hn0 : (bestL g xs == 0) = false := by have := hpos _ (List.mem_append_left [u] h1); simp; omega
      rw [hn0]
      by_cases hlt : g u.toNat < g (bestL g xs).toNat
      · rw [decide_eq_true hlt]
        simp only [Bool.or_true, Bool.and_self, if_true]
        refine .inr ⟨by simp, hp, fun v hv hpv => ?_⟩
        rcases List.mem_append.1 hv with hv | hv
        · have := (h3 v hv hpv).1; exact ⟨by omega, fun e => by omega⟩
        · simp at hv; subst hv; exact ⟨Nat.le_refl _, fun _ => Int.le_refl _⟩
      · rw [decide_eq_false hlt]
        simp only [Bool.or_false, Bool.and_false, Bool.false_eq_true, if_false]
        refine .inr ⟨by simp [h1], h2, fun v hv hpv => ?_⟩
        rcases List.mem_append.1 hv with hv | hv
        · exact h3 v hv hpv
        · simp at hv; subst hv; exact ⟨by omega, fun _ => Int.le_of_lt (hlu _ h1)⟩
  · rw [decide_eq_false hp]
    simp only [Bool.false_and, Bool.false_eq_true, if_false]
    rcases ih with ⟨h1, h2⟩ | ⟨h1, h2, h3⟩
    · refine .inl ⟨h1, fun v hv => ?_⟩
      rcases List.mem_append.1 hv with hv | hv
      · exact h2 v hv
      · simp at hv; subst hv; omega
    · refine .inr ⟨by simp [h1], h2, fun v hv hpv => ?_⟩
      rcases List.mem_append.1 hv with hv | hv
      · exact h3 v hv hpv
      · simp at hv; subst hv; omega
def nextL (l : List Cl) (g : Nat → Nat) (v : Int) : Int := leastL (fun u => g u.toNat == g v.toNat - 1) (namesL l v)
def followL (l : List Cl) (g : Nat → Nat) : Nat → Int → List Int
  | 0, _ => []
  | 1, _ => []
  | k + 2, v => nextL l g v :: followL l g (k + 1) (nextL l g v)
/-- A way down. -/
def Fw (l : List Cl) (ar tx : Int) : List Int → Prop
  | [] => False
  | [a] => a = tx ∧ fitL l ar a = true
  | a :: b :: r => fitL l ar a = true ∧ b ∈ namesL l a ∧ Fw l ar tx (b :: r)
theorem Fw.path {l : List Cl} {ar tx : Int} : ∀ {r : List Int} {v : Int}, Fw l ar tx (v :: r) → PathN l ar tx (r.length + 1) v
  | [], _, h => h
  | _ :: _, _, h => ⟨h.1, _, h.2.1, Fw.path h.2.2⟩
/-- Forward, by what is first. -/
def flex : List Int → List Int → Prop
  | [], [] => True
  | a :: x, b :: y => a < b ∨ (a = b ∧ flex x y)
  | _, _ => False
theorem flex_refl : ∀ x, flex x x
  | [] => trivial
  | _ :: x => .inr ⟨rfl, flex_refl x⟩
theorem flex_anti : ∀ {x y : List Int}, flex x y → flex y x → x = y
  | [], [], _, _ => rfl
  | a :: x, b :: y, h1, h2 => by
    rcases h1 with h1 | ⟨e1, h1⟩
    · rcases h2 with h2 | ⟨e2, _⟩ <;> omega
    · rcases h2 with h2 | ⟨_, h2⟩
      · omega
      · rw [e1, flex_anti h1 h2]
  | [], _ :: _, h, _ => h.elim
  | _ :: _, [], h, _ => h.elim
theorem flex_app : ∀ {p q : List Int}, flex p q → p ≠ q → ∀ s t, flex (p ++ s) (q ++ t)
  | [], [], _, hn, _, _ => absurd rfl hn
  | a :: p, b :: q, h, hn, s, t => by
    rcases h with h | ⟨rfl, h⟩
    · exact .inl h
    · exact .inr ⟨rfl, flex_app h (fun e => hn (by rw [e])) s t⟩
  | [], _ :: _, h, _, _, _ => h.elim
  | _ :: _, [], h, _, _, _ => h.elim
theorem flex_snoc {a b : Int} (h : a ≤ b) : ∀ p : List Int, flex (p ++ [a]) (p ++ [b])
  | [] => by
    rcases Int.lt_or_eq_of_le h with h | h
    · exact .inl h
    · exact .inr ⟨h, trivial⟩
  | _ :: p => .inr ⟨rfl, flex_snoc h p⟩
theorem leE_flex : ∀ {x y : List Int}, leE x y → flex x.reverse y.reverse
  | [], [], _ => trivial
  | a :: x, b :: y, h => by
    rw [List.reverse_cons, List.reverse_cons]
    rcases h with ⟨hn, h⟩ | ⟨rfl, h⟩
    · exact flex_app (leE_flex h) (fun e => hn (by rw [← List.reverse_reverse x, e, List.reverse_reverse])) _ _
    · exact flex_snoc h _
  | [], _ :: _, h => h.elim
  | _ :: _, [], h => h.elim
theorem pos_names {l : List Cl} {v : Int} : ∀ u ∈ namesL l v, 0 < u := fun _ hu => (liveL_range (namesL_live hu).1).1
/-- The least way on is a way down, the least of its length. -/
theorem follow_fw {l : List Cl} {ar tx : Int} {g : Nat → Nat} (hg : FarT l ar tx g) : ∀ (k : Nat) (v : Int), 0 < v → 0 < k → g v.toNat = k → Fw l ar tx (v :: followL l g k v) ∧ (followL l g k v).length + 1 = k ∧ ∀ r, Fw l ar tx (v :: r) → r.length + 1 = k → flex (followL l g k v) r := by
  intro k
  induction k with
  | zero => intro v _ h0; omega
  | succ k ih =>
    intro v hv0 _ hk
    have hm : MinP l ar tx (k + 1) v := by have := hg.min (v := v) (by omega) (by omega); rw [hk] at this; exact this
    cases k with
    | zero => exact ⟨hm.1, rfl, fun r _ hr => by
        have : r = [] := List.length_eq_zero_iff.1 (by omega)
        subst this; exact trivial⟩
    | succ m =>
      have hone : ∀ u, u ∈ namesL l v → PathN l ar tx (m + 1) u → g u.toNat = m + 1 := fun u hu hp => by
        have h1 := hg.of_path hp
        have h2 := hg.min (v := u) (by have := pos_names u hu; omega) h1.1
        rcases Nat.lt_or_ge (g u.toNat) (m + 1) with h | h
        · exact absurd (h2.1.cons hm.1.fit hu) (hm.2 _ (by omega))
        · omega
      obtain ⟨hf, u, hu, hp⟩ := hm.1
      have hpu : (g u.toNat == g v.toNat - 1) = true := by rw [hone u hu hp, hk]; simp
      rcases leastL_spec (fun u => g u.toNat == g v.toNat - 1) (namesL l v) pos_names with ⟨_, h2⟩ | ⟨h1, h2, h3⟩
      · have := h2 u hu; rw [hpu] at this; cases this
      · have hgn : g (nextL l g v).toNat = m + 1 := by
          have : (g (nextL l g v).toNat == g v.toNat - 1) = true := h2
          rw [hk] at this
          simpa using this
        obtain ⟨i1, i2, i3⟩ := ih (nextL l g v) (pos_names _ h1) (by omega) hgn
        refine ⟨⟨hf, h1, i1⟩, by rw [followL, List.length_cons, i2], fun r hr hl => ?_⟩
        cases r with
        | nil => simp at hl
        | cons b r =>
          obtain ⟨_, hb, hr⟩ := hr
          have hgb := hone b hb (by have := hr.path; simp at hl; rw [hl] at this; exact this)
          have hle : nextL l g v ≤ b := h3 b hb (by rw [hgb, hk]; simp)
          rw [followL]
          rcases Int.lt_or_eq_of_le hle with h | h
          · exact .inl h
          · subst h
            exact .inr ⟨rfl, i3 r hr (by simpa using hl)⟩
theorem UpP.fit {l : List Cl} {frm : List Int} {ar v : Int} {r : List Int} (h : UpP l frm ar (v :: r)) : fitL l ar v = true := by
  cases r with
  | nil => exact h.2
  | cons b r => exact h.1
theorem fw_up {l : List Cl} {frm : List Int} {ar tx : Int} : ∀ (d : List Int) (v : Int) (acc : List Int), Fw l ar tx (v :: d) → UpP l frm ar (v :: acc) → ∃ s, UpP l frm ar (tx :: s) ∧ (v :: d).reverse ++ acc = tx :: s
  | [], v, acc, h1, h2 => by obtain ⟨rfl, _⟩ := h1; exact ⟨acc, h2, rfl⟩
  | b :: d, v, acc, h1, h2 => by
    have hb : fitL l ar b = true := (Fw.path h1.2.2).fit
    obtain ⟨s, h3, h4⟩ := fw_up d b (v :: acc) h1.2.2 ⟨hb, h1.2.1, h2⟩
    refine ⟨s, h3, ?_⟩
    rw [← h4]; simp
theorem up_fw {l : List Cl} {frm : List Int} {ar tx : Int} : ∀ (q : List Int) (v : Int) (acc : List Int), UpP l frm ar (v :: q) → Fw l ar tx (v :: acc) → ∃ r s, (v :: q).reverse ++ acc = r :: s ∧ r ∈ frm ∧ Fw l ar tx (r :: s)
  | [], v, acc, h1, h2 => ⟨v, acc, rfl, h1.1, h2⟩
  | b :: q, v, acc, h1, h2 => by
    obtain ⟨r, s, h3, h4, h5⟩ := up_fw q b (v :: acc) h1.2.2 ⟨h1.2.2.fit, h1.2.1, h2⟩
    exact ⟨r, s, by rw [← h3]; simp, h4, h5⟩
theorem climb_up {l : List Cl} {ar : Int} {frm : List Int} {st : List (Int × Int)} (h : Neat l ar st) (hb : ByIn st) (ho : ∀ p ∈ st, Org l frm p) : ∀ (i : Nat) (p : Int × Int), st[i]? = some p → UpP l frm ar (climbL st st.length p.1) := by
  intro i
  induction i using Nat.strongRecOn with
  | ind i ih =>
    intro p hp
    have hm := List.mem_of_getElem? hp
    have hf := h.2 p hm
    by_cases hst : p.2 = p.1
    · rw [climb_stop h hp hst]
      rcases ho p hm with ⟨_, h2⟩ | ⟨h1, _⟩
      · exact ⟨h2, hf⟩
      · exact absurd hst h1
    · obtain ⟨j, q, hj, hq, hqp, hcl⟩ := climb_on h hb hp hst
      rw [hcl]
      have := ih j hj q hq
      obtain ⟨r, hr⟩ := climb_head st st.length q.1
      rw [hr] at this ⊢
      refine ⟨hf, ?_, this⟩
      rcases ho p hm with ⟨h1, _⟩ | ⟨_, h2⟩
      · exact absurd h1 hst
      · rw [hqp]; exact h2
/-- The document's way. -/
def wayD (l : List Cl) (g : Nat → Nat) : List Int := if bestL g (rootsL l) = 0 then [] else bestL g (rootsL l) :: followL l g (g (bestL g (rootsL l)).toNat) (bestL g (rootsL l))
theorem way_off {l : List Cl} {ar tx : Int} (h : fitL l ar tx = false) : wayL l tx ar = [] := by
  have : ¬ 0 < (wayL l tx ar).length := fun h1 => by
    rw [way_len] at h1
    have := h1.fit
    rw [h] at this; cases this
  exact List.length_eq_zero_iff.1 (by omega)
theorem wayD_eq {l : List Cl} {ar tx : Int} {g : Nat → Nat} (hg : FarT l ar tx g) (hf : fitL l ar tx = true) : wayD l g = wayL l tx ar := by
  have hrp : ∀ u ∈ rootsL l, 0 < u := fun u hu => (liveL_range (rootsL_live hu)).1
  have hup : seen (spreadL l (rootsL l) ar (sNamesL l)) tx = true → ∃ r s, wayL l tx ar = r :: s ∧ r ∈ rootsL l ∧ Fw l ar tx (r :: s) := fun hs => by
    obtain ⟨m, p, hp, rfl⟩ := seen_at hs
    have hu := climb_up (Neat.spread _ _ _ _) (ByIn.spread _ _ _ _) (spread_org l (rootsL l) ar) m p hp
    obtain ⟨r, hr⟩ := climb_head (spreadL l (rootsL l) ar (sNamesL l)) (spreadL l (rootsL l) ar (sNamesL l)).length p.1
    rw [hr] at hu
    obtain ⟨a, s, h1, h2, h3⟩ := up_fw r p.1 [] hu (show Fw l ar p.1 [p.1] from ⟨rfl, hf⟩)
    refine ⟨a, s, ?_, h2, h3⟩
    unfold wayL wayBy
    rw [if_pos hs, hr, ← h1, List.append_nil]
  unfold wayD
  rcases bestL_spec g (rootsL l) hrp (rootsTo_sorted l 0) with ⟨h1, h2⟩ | ⟨h1, h2, h3⟩
  · rw [if_pos h1]
    cases hs : seen (spreadL l (rootsL l) ar (sNamesL l)) tx
    · unfold wayL wayBy; rw [hs]; rfl
    · obtain ⟨r, s, _, e2, e3⟩ := hup hs
      have := (hg.of_path e3.path).1
      have := h2 r e2
      omega
  · have hb0 := hrp _ h1
    rw [if_neg (by omega)]
    generalize hbr : bestL g (rootsL l) = b at h1 h2 h3 hb0 ⊢
    obtain ⟨f1, f2, f3⟩ := follow_fw hg _ b hb0 h2 rfl
    have hbf : fitL l ar b = true := f1.path.fit
    obtain ⟨s, g1, g2⟩ := fw_up _ b [] f1 (show UpP l (rootsL l) ar [b] from ⟨h1, hbf⟩)
    rw [List.append_nil] at g2
    obtain ⟨j, p, hp, rfl, hle⟩ := climb_least l ar _ _ _ rfl g1
    have hs := seen_mem (List.mem_of_getElem? hp)
    obtain ⟨r, t, e1, e2, e3⟩ := hup hs
    have hcl : (wayL l p.1 ar) = (climbL (spreadL l (rootsL l) ar (sNamesL l)) (spreadL l (rootsL l) ar (sNamesL l)).length p.1).reverse := by unfold wayL wayBy; rw [if_pos hs]
    have hlen : (b :: followL l g (g b.toNat) b).length = g b.toNat := by simpa using f2
    rw [← g2] at hle
    have hr := hg.of_path e3.path
    have hr2 := h3 r e2 hr.1
    have hwl : (wayL l p.1 ar).length = t.length + 1 := by rw [e1]; simp
    have hle2 : leE (climbL (spreadL l (rootsL l) ar (sNamesL l)) (spreadL l (rootsL l) ar (sNamesL l)).length p.1) (b :: followL l g (g b.toNat) b).reverse ∧ t.length + 1 = g b.toNat := by
      rcases hle with h | ⟨h4, h5⟩
      · rw [hcl, List.length_reverse] at hwl
        rw [List.length_reverse, hlen] at h
        omega
      · rw [hcl, List.length_reverse] at hwl
        rw [List.length_reverse, hlen] at h4
        exact ⟨h5, by omega⟩
    have h6 := leE_flex hle2.1
    rw [← hcl, List.reverse_reverse] at h6
    refine flex_anti ?_ h6
    rw [e1]
    have hge : g b.toNat = g r.toNat := by omega
    rcases Int.lt_or_eq_of_le (hr2.2 hge) with h | h
    · exact .inl h
    · subst h
      exact .inr ⟨rfl, f3 t e3 hle2.2⟩
end Go.Proofs.Ytgjpbhgobjlneaa
