/- Layer 45, plain law, no program in sight: what any object names, which roots a heap has, and a search, nearest first, with what it comes to. Conditions: none. -/
import Derived.Test.YtgjpbhgobjlneaaLib3
namespace Go.Proofs.Ytgjpbhgobjlneaa
open Go.RowKit
/-- An object in a heap. -/
structure Cl where
  cls : List UInt8
  o0 : Int
  o1 : Int
  o2 : Int
  o3 : Int
  fA : Option Addr
  fc : Nat
  fl : List (Bool × Int)
  dead : Bool
def valC (v : Bool × Int) : List Value := [.bool v.1, .int .i64 v.2]
def Cl.cells (c : Cl) : List Value := [.string (bs c.cls), .int .i64 c.o0, .int .i64 c.o1, .int .i64 c.o2, .int .i64 c.o3, .slice c.fA c.fl.length c.fc, .bool c.dead]
theorem Cl.len (c : Cl) : c.cells.length = 7 := rfl
def clAt (l : List Cl) (a : Int) : Option Cl := if 0 < a then l[(a - 1).toNat]? else none
def liveL (l : List Cl) (a : Int) : Bool := match clAt l a with | some c => !c.dead | none => false
def pickF (l : List Cl) (f : List (Bool × Int)) : List Int := (f.filter fun v => v.1 && liveL l v.2).map (·.2)
def namesL (l : List Cl) (a : Int) : List Int := match clAt l a with | some c => if c.dead then [] else pickF l c.fl | none => []
def rootB (c : Cl) : Bool := c.o0 == 0 && !c.dead
def rootsTo : Nat → List Cl → List Int
  | _, [] => []
  | k, c :: r => (if rootB c then [((k : Nat) : Int) + 1] else []) ++ rootsTo (k + 1) r
def rootsL (l : List Cl) : List Int := rootsTo 0 l
theorem rootsTo_append : ∀ (l r : List Cl) (k : Nat), rootsTo k (l ++ r) = rootsTo k l ++ rootsTo (k + l.length) r
  | [], r, k => by simp [rootsTo]
  | c :: l, r, k => by
    simp only [List.cons_append, rootsTo, rootsTo_append l r (k + 1), List.length_cons, List.append_assoc]
    congr 2
    rw [show k + 1 + l.length = k + (l.length + 1) by omega]
theorem rootsTo_mem : ∀ (l : List Cl) (k : Nat) (a : Int), a ∈ rootsTo k l ↔ ∃ i c, l[i]? = some c ∧ rootB c = true ∧ a = ((k + i : Nat) : Int) + 1
  | [], k, a => by simp [rootsTo]
  | c :: r, k, a => by
    rw [rootsTo, List.mem_append, rootsTo_mem r (k + 1) a]
    constructor
    · rintro (h | ⟨i, d, h1, h2, h3⟩)
      · cases hc : rootB c
        · rw [hc] at h; simp at h
        · rw [hc] at h; simp at h; exact ⟨0, c, rfl, hc, by omega⟩
      · exact ⟨i + 1, d, by simpa using h1, h2, by omega⟩
    · rintro ⟨i, d, h1, h2, h3⟩
      cases i with
      | zero => simp at h1; subst h1; left; rw [h2]; simp; omega
      | succ i => right; exact ⟨i, d, by simpa using h1, h2, by omega⟩
theorem rootsTo_sorted : ∀ (l : List Cl) (k : Nat), (rootsTo k l).Pairwise (· < ·)
  | [], k => by simp [rootsTo]
  | c :: r, k => by
    rw [rootsTo, List.pairwise_append]
    refine ⟨by split <;> simp, rootsTo_sorted r (k + 1), fun a ha b hb => ?_⟩
    obtain ⟨i, d, _, _, h3⟩ := (rootsTo_mem r (k + 1) b).1 hb
    split at ha
    · simp at ha; omega
    · simp at ha
theorem clAt_some {l : List Cl} {a : Int} {c : Cl} (h : clAt l a = some c) : 0 < a ∧ a ≤ l.length ∧ l[(a - 1).toNat]? = some c := by
  unfold clAt at h
  split at h
  · rename_i h0
    have := (List.getElem?_eq_some_iff.1 h).1
    exact ⟨h0, by omega, h⟩
  · cases h
theorem liveL_range {l : List Cl} {a : Int} (h : liveL l a = true) : 0 < a ∧ a ≤ l.length := by
  unfold liveL at h
  split at h
  · rename_i c hc; exact ⟨(clAt_some hc).1, (clAt_some hc).2.1⟩
  · cases h
theorem namesL_live {l : List Cl} {a b : Int} (h : b ∈ namesL l a) : liveL l b = true ∧ liveL l a = true := by
  unfold namesL at h
  split at h
  · rename_i c hc
    split at h
    · simp at h
    · rename_i hd
      obtain ⟨v, hv, rfl⟩ := List.mem_map.1 h
      have := (List.mem_filter.1 hv).2
      simp only [Bool.and_eq_true] at this
      exact ⟨this.2, by unfold liveL; rw [hc]; simpa using hd⟩
  · simp at h
theorem rootsL_live {l : List Cl} {a : Int} (h : a ∈ rootsL l) : liveL l a = true := by
  obtain ⟨i, c, h1, h2, rfl⟩ := (rootsTo_mem l 0 a).1 h
  unfold liveL clAt
  rw [if_pos (by omega), show (((0 + i : Nat) : Int) + 1 - 1).toNat = i by omega, h1]
  simp only [rootB, Bool.and_eq_true] at h2
  exact h2.2
/-! ### The search -/
def seen (st : List (Int × Int)) (a : Int) : Bool := st.any fun p => p.1 == a
def fitL (l : List Cl) (ar a : Int) : Bool := a != ar && liveL l a
def meetL (l : List Cl) (ar : Int) (st : List (Int × Int)) (a b : Int) : List (Int × Int) := if !seen st a && fitL l ar a then st ++ [(a, b)] else st
def startL (l : List Cl) (ar : Int) (frm : List Int) : List (Int × Int) := frm.foldl (fun s a => meetL l ar s a a) []
def stepL (l : List Cl) (ar : Int) (xs : List Int) (st : List (Int × Int)) (x : Int) : List (Int × Int) := xs.foldl (fun s a => meetL l ar s a x) st
def bfsL (l : List Cl) (ar : Int) (nx : Int → List Int) : Nat → Nat → List (Int × Int) → List (Int × Int)
  | 0, _, st => st
  | f + 1, i, st => match st[i]? with
    | none => st
    | some p => bfsL l ar nx f (i + 1) (stepL l ar (nx p.1) st p.1)
def spreadL (l : List Cl) (frm : List Int) (ar : Int) (nx : Int → List Int) : List (Int × Int) := bfsL l ar nx (l.length + 1) 0 (startL l ar frm)
/-- What a run of meetings adds. -/
def newsL (l : List Cl) (ar : Int) : List (Int × Int) → List Int → List Int
  | _, [] => []
  | st, a :: xs => if !seen st a && fitL l ar a then a :: newsL l ar (st ++ [(a, 0)]) xs else newsL l ar st xs
theorem seen_append (s t : List (Int × Int)) (a : Int) : seen (s ++ t) a = (seen s a || seen t a) := by simp [seen]
theorem seen_keys {s t : List (Int × Int)} (h : s.map (·.1) = t.map (·.1)) (a : Int) : seen s a = seen t a := by
  have e : ∀ s : List (Int × Int), seen s a = (s.map (·.1)).any (fun x => x == a) := fun s => by simp [seen, List.any_map]; rfl
  rw [e, e, h]
theorem newsL_keys (l : List Cl) (ar : Int) : ∀ (xs : List Int) (s t : List (Int × Int)), s.map (·.1) = t.map (·.1) → newsL l ar s xs = newsL l ar t xs
  | [], s, t, _ => rfl
  | a :: xs, s, t, h => by
    simp only [newsL, seen_keys h a]
    split
    · rw [newsL_keys l ar xs (s ++ [(a, 0)]) (t ++ [(a, 0)]) (by simp [h])]
    · exact newsL_keys l ar xs s t h
theorem fold_news (l : List Cl) (ar : Int) (g : Int → Int) : ∀ (xs : List Int) (st : List (Int × Int)), xs.foldl (fun s a => meetL l ar s a (g a)) st = st ++ (newsL l ar st xs).map fun a => (a, g a)
  | [], st => by simp [newsL]
  | a :: xs, st => by
    rw [List.foldl_cons, fold_news l ar g xs]
    unfold meetL
    simp only [newsL]
    split
    · rw [newsL_keys l ar xs (st ++ [(a, g a)]) (st ++ [(a, 0)]) (by simp)]; simp
    · rfl
theorem stepL_news (l : List Cl) (ar : Int) (xs : List Int) (st : List (Int × Int)) (x : Int) : stepL l ar xs st x = st ++ (newsL l ar st xs).map fun a => (a, x) := fold_news l ar (fun _ => x) xs st
theorem startL_news (l : List Cl) (ar : Int) (frm : List Int) : startL l ar frm = (newsL l ar [] frm).map fun a => (a, a) := by
  have := fold_news l ar (fun a => a) frm []
  simpa [startL] using this
theorem newsL_sub (l : List Cl) (ar : Int) : ∀ (xs : List Int) (st : List (Int × Int)), (newsL l ar st xs).Sublist xs
  | [], st => by simp [newsL]
  | a :: xs, st => by
    simp only [newsL]
    split
    · exact (newsL_sub l ar xs _).cons_cons a
    · exact (newsL_sub l ar xs _).cons a
theorem newsL_mem (l : List Cl) (ar : Int) : ∀ (xs : List Int) (st : List (Int × Int)) (a : Int), a ∈ newsL l ar st xs ↔ a ∈ xs ∧ seen st a = false ∧ fitL l ar a = true
  | [], st, a => by simp [newsL]
  | b :: xs, st, a => by
    simp only [newsL]
    split
    · rename_i h
      simp only [Bool.and_eq_true, Bool.not_eq_true'] at h
      rw [List.mem_cons, newsL_mem l ar xs, List.mem_cons, seen_append]
      constructor
      · rintro (rfl | ⟨h1, h2, h3⟩)
        · exact ⟨.inl rfl, h.1, h.2⟩
        · rw [Bool.or_eq_false_iff] at h2; exact ⟨.inr h1, h2.1, h3⟩
      · rintro ⟨h1, h2, h3⟩
        by_cases hab : a = b
        · exact .inl hab
        · refine .inr ⟨h1.resolve_left hab, ?_, h3⟩
          rw [h2]; simp [seen]; exact fun e => hab e.symm
    · rename_i h
      rw [newsL_mem l ar xs, List.mem_cons]
      constructor
      · rintro ⟨h1, h2⟩; exact ⟨.inr h1, h2⟩
      · rintro ⟨h1, h2, h3⟩
        rcases h1 with rfl | h1
        · rw [h2, h3] at h; simp at h
        · exact ⟨h1, h2, h3⟩
theorem newsL_nodup (l : List Cl) (ar : Int) : ∀ (xs : List Int) (st : List (Int × Int)), (newsL l ar st xs).Nodup
  | [], st => by simp [newsL]
  | b :: xs, st => by
    simp only [newsL]
    split
    · rw [List.nodup_cons]
      refine ⟨fun h => ?_, newsL_nodup l ar xs _⟩
      have := ((newsL_mem l ar xs _ b).1 h).2.1
      rw [seen_append] at this
      simp [seen] at this
    · exact newsL_nodup l ar xs _
/-- Keys apart from one another, each of an object that is not dead. -/
def Neat (l : List Cl) (ar : Int) (st : List (Int × Int)) : Prop := (st.map (·.1)).Nodup ∧ ∀ p ∈ st, fitL l ar p.1 = true
theorem seen_iff {st : List (Int × Int)} {a : Int} : seen st a = true ↔ a ∈ st.map (·.1) := by
  simp [seen]
theorem Neat.step {l : List Cl} {ar : Int} {st : List (Int × Int)} (h : Neat l ar st) (xs : List Int) (x : Int) : Neat l ar (stepL l ar xs st x) := by
  rw [stepL_news]
  refine ⟨?_, fun p hp => ?_⟩
  · rw [List.map_append, List.nodup_append, List.map_map]
    refine ⟨h.1, by simpa [Function.comp_def] using newsL_nodup l ar xs st, fun a ha b hb e => ?_⟩
    subst e
    simp [Function.comp_def] at hb
    have := ((newsL_mem l ar xs st a).1 hb).2.1
    rw [seen_iff.2 ha] at this; cases this
  · rcases List.mem_append.1 hp with hp | hp
    · exact h.2 p hp
    · obtain ⟨a, ha, rfl⟩ := List.mem_map.1 hp
      exact ((newsL_mem l ar xs st a).1 ha).2.2
theorem Neat.start (l : List Cl) (ar : Int) (frm : List Int) : Neat l ar (startL l ar frm) := by
  rw [startL_news]
  refine ⟨by simpa [Function.comp_def] using newsL_nodup l ar frm [], fun p hp => ?_⟩
  obtain ⟨a, ha, rfl⟩ := List.mem_map.1 hp
  exact ((newsL_mem l ar frm [] a).1 ha).2.2
/-- Numbers apart from one another, each from 1 to n: no more than n. -/
theorem nodup_range : ∀ (n : Nat) (xs : List Int), xs.Nodup → (∀ a ∈ xs, 0 < a ∧ a ≤ n) → xs.length ≤ n
  | 0, xs, _, h => by
    cases xs with
    | nil => simp
    | cons a r => have := h a (by simp); omega
  | n + 1, xs, hd, h => by
    have h1 := nodup_range n (xs.filter fun a => a != ((n + 1 : Nat) : Int)) (hd.filter _) (fun a ha => by
      have h2 := (List.mem_filter.1 ha)
      have h3 := h a h2.1
      have h4 : a ≠ ((n + 1 : Nat) : Int) := by simpa using h2.2
      omega)
    have h2 : (xs.filter fun a => !(a != ((n + 1 : Nat) : Int))).length ≤ 1 := by
      have e : (xs.filter fun a => !(a != ((n + 1 : Nat) : Int))) = xs.filter (fun a => a == ((n + 1 : Nat) : Int)) := by congr 1; funext a; show (!(!(a == _))) = (a == _); rw [Bool.not_not]
      rw [e, ← List.countP_eq_length_filter, ← List.count]
      exact List.nodup_iff_count.1 hd _
    have h3 := List.length_eq_countP_add_countP (fun a => a != ((n + 1 : Nat) : Int)) (l := xs)
    rw [List.countP_eq_length_filter, List.countP_eq_length_filter] at h3
    have h4 : (xs.filter fun a => decide ¬((a != ((n + 1 : Nat) : Int)) = true)).length = (xs.filter fun a => !(a != ((n + 1 : Nat) : Int))).length := by congr 2; funext a; cases (a != ((n + 1 : Nat) : Int)) <;> rfl
    omega
theorem Neat.len {l : List Cl} {ar : Int} {st : List (Int × Int)} (h : Neat l ar st) : st.length ≤ l.length := by
  have := nodup_range l.length (st.map (·.1)) h.1 (fun a ha => by
    obtain ⟨p, hp, rfl⟩ := List.mem_map.1 ha
    have := h.2 p hp
    simp only [fitL, Bool.and_eq_true] at this
    exact liveL_range this.2)
  simpa using this
end Go.Proofs.Ytgjpbhgobjlneaa
