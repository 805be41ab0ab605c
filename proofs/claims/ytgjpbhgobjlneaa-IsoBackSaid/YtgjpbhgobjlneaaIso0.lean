/- Layer 44, plain law, no program in sight: which events match and by which numbers; that events that match are made of one another. Conditions: none. -/
import Derived.Test.YtgjpbhgobjlneaaMp
namespace Go.Proofs.Ytgjpbhgobjlneaa
open Go.RowKit
/-- An event. -/
structure Ev where
  kind : Int
  who : Int
  obj : Int
  name : List UInt8
  ref : Bool
  n : Int
  o0 : Int
  o1 : Int
  o2 : Int
  o3 : Int
def Ev.cells (e : Ev) : List Value := [.int .i64 e.kind, .int .i64 e.who, .int .i64 e.obj, .string (bs e.name), .bool e.ref, .int .i64 e.n, .int .i64 e.o0, .int .i64 e.o1, .int .i64 e.o2, .int .i64 e.o3]
theorem Ev.len (e : Ev) : e.cells.length = 10 := rfl
def Ev.nums (e : Ev) : List Int := [e.who, e.obj] ++ (if e.ref then [e.n] else []) ++ [e.o0, e.o1, e.o2, e.o3]
def sgn (n : Int) : Int := if 0 < n then 1 else if n < 0 then -1 else 0
def pairC (p : Int × Int) : List Value := [.int .i64 p.1, .int .i64 p.2]
def fstF (ps : List (Int × Int)) (i : Int) : Option (Int × Int) := ps.find? (fun p => p.1 == i)
def sndF (ps : List (Int × Int)) (i : Int) : Option (Int × Int) := ps.find? (fun p => p.2 == i)
/-- Two numbers are held against one another. -/
def holdL (ps : List (Int × Int)) (a b : Int) : Option (List (Int × Int)) :=
  if sgn a ≠ sgn b then none
  else if a = 0 then some ps
  else if (fstF ps a).isSome ∨ (sndF ps b).isSome then (if (fstF ps a).map (·.2) = some b ∧ (sndF ps b).map (·.1) = some a then some ps else none)
  else some (ps ++ [(a, b)])
def alikeE (a b : Ev) : Bool := a.kind == b.kind && a.name == b.name && a.ref == b.ref && (a.ref || a.n == b.n)
def foldH : List (Int × Int) → List (Int × Int) → Option (List (Int × Int))
  | ps, [] => some ps
  | ps, (a, b) :: r => (holdL ps a b).bind fun qs => foldH qs r
def evL (ps : List (Int × Int)) (a b : Ev) : Option (List (Int × Int)) := if alikeE a b then foldH ps (a.nums.zip b.nums) else none
def foldE : List (Int × Int) → List (Ev × Ev) → Option (List (Int × Int))
  | ps, [] => some ps
  | ps, (a, b) :: r => (evL ps a b).bind fun qs => foldE qs r
def matchL (a b : List Ev) : Option (List (Int × Int)) := if a.length = b.length then foldE [] (a.zip b) else none

theorem foldH_snoc : ∀ (l : List (Int × Int)) (ps : List (Int × Int)) (x : Int × Int), foldH ps (l ++ [x]) = (foldH ps l).bind fun qs => holdL qs x.1 x.2
  | [], ps, (a, b) => by simp [foldH]
  | (c, d) :: r, ps, x => by
    simp only [List.cons_append, foldH]
    cases holdL ps c d with
    | none => rfl
    | some qs => simp only [Option.bind_some]; exact foldH_snoc r qs x
theorem foldE_snoc : ∀ (l : List (Ev × Ev)) (ps : List (Int × Int)) (x : Ev × Ev), foldE ps (l ++ [x]) = (foldE ps l).bind fun qs => evL qs x.1 x.2
  | [], ps, (a, b) => by simp [foldE]
  | (c, d) :: r, ps, x => by
    simp only [List.cons_append, foldE]
    cases evL ps c d with
    | none => rfl
    | some qs => simp only [Option.bind_some]; exact foldE_snoc r qs x
theorem foldH_none {ps : List (Int × Int)} : ∀ (l r : List (Int × Int)), foldH ps l = none → foldH ps (l ++ r) = none := by
  intro l
  induction l generalizing ps with
  | nil => intro r h; simp [foldH] at h
  | cons x l ih =>
    obtain ⟨a, b⟩ := x
    intro r h
    simp only [List.cons_append, foldH] at h ⊢
    cases hh : holdL ps a b with
    | none => rfl
    | some qs => rw [hh] at h; simp only [Option.bind_some] at h ⊢; exact ih r h
theorem foldE_none {ps : List (Int × Int)} : ∀ (l r : List (Ev × Ev)), foldE ps l = none → foldE ps (l ++ r) = none := by
  intro l
  induction l generalizing ps with
  | nil => intro r h; simp [foldE] at h
  | cons x l ih =>
    obtain ⟨a, b⟩ := x
    intro r h
    simp only [List.cons_append, foldE] at h ⊢
    cases hh : evL ps a b with
    | none => rfl
    | some qs => rw [hh] at h; simp only [Option.bind_some] at h ⊢; exact ih r h
/-- Pairs of numbers that are not 0, each one's only partner the other. -/
def Fair (ps : List (Int × Int)) : Prop := (∀ p ∈ ps, p.1 ≠ 0 ∧ p.2 ≠ 0 ∧ sgn p.1 = sgn p.2) ∧ (∀ p ∈ ps, ∀ q ∈ ps, (p.1 = q.1 ↔ p.2 = q.2))
theorem sgn_zero {a : Int} : sgn a = 0 ↔ a = 0 := by unfold sgn; split <;> (try split) <;> omega
theorem Fair.nil : Fair [] := ⟨by simp, by simp⟩
theorem fstF_some {ps : List (Int × Int)} {i : Int} {p : Int × Int} (h : fstF ps i = some p) : p ∈ ps ∧ p.1 = i := ⟨List.mem_of_find?_eq_some h, by simpa using List.find?_some h⟩
theorem sndF_some {ps : List (Int × Int)} {i : Int} {p : Int × Int} (h : sndF ps i = some p) : p ∈ ps ∧ p.2 = i := ⟨List.mem_of_find?_eq_some h, by simpa using List.find?_some h⟩
theorem fstF_none {ps : List (Int × Int)} {i : Int} (h : (fstF ps i).isSome = false) : ∀ p ∈ ps, p.1 ≠ i := by
  intro p hp e
  rw [Option.isSome_eq_false_iff, Option.isNone_iff_eq_none] at h
  have := List.find?_eq_none.1 h p hp
  simp [e] at this
theorem sndF_none {ps : List (Int × Int)} {i : Int} (h : (sndF ps i).isSome = false) : ∀ p ∈ ps, p.2 ≠ i := by
  intro p hp e
  rw [Option.isSome_eq_false_iff, Option.isNone_iff_eq_none] at h
  have := List.find?_eq_none.1 h p hp
  simp [e] at this
theorem fstF_mem {ps : List (Int × Int)} (hf : Fair ps) {a b : Int} (h : (a, b) ∈ ps) : fstF ps a = some (a, b) := by
  cases hh : fstF ps a with
  | none => exact absurd rfl (fstF_none (by rw [hh]; rfl) _ h)
  | some p =>
    obtain ⟨h1, h2⟩ := fstF_some hh
    have := (hf.2 p h1 (a, b) h).1 h2
    obtain ⟨x, y⟩ := p
    simp at h2 this
    rw [h2, this]
theorem sndF_mem {ps : List (Int × Int)} (hf : Fair ps) {a b : Int} (h : (a, b) ∈ ps) : sndF ps b = some (a, b) := by
  cases hh : sndF ps b with
  | none => exact absurd rfl (sndF_none (by rw [hh]; rfl) _ h)
  | some p =>
    obtain ⟨h1, h2⟩ := sndF_some hh
    have := (hf.2 p h1 (a, b) h).2 h2
    obtain ⟨x, y⟩ := p
    simp at h2 this
    rw [h2, this]
/-- What comes of holding two numbers against one another, of fair pairs. -/
theorem holdL_fair {ps qs : List (Int × Int)} (hf : Fair ps) {a b : Int} (h : holdL ps a b = some qs) : Fair qs ∧ (∃ r, qs = ps ++ r) ∧ sgn a = sgn b ∧ (a ≠ 0 → (a, b) ∈ qs) := by
  unfold holdL at h
  split at h
  · cases h
  · rename_i hs
    have hs : sgn a = sgn b := by simpa using hs
    split at h
    · rename_i h0
      injection h with h
      subst h
      exact ⟨hf, ⟨[], by simp⟩, hs, fun h => absurd h0 h⟩
    · rename_i h0
      split at h
      · split at h
        · rename_i h1
          injection h with h
          subst h
          refine ⟨hf, ⟨[], by simp⟩, hs, fun _ => ?_⟩
          cases hh : fstF ps a with
          | none => rw [hh] at h1; simp at h1
          | some p =>
            rw [hh] at h1
            obtain ⟨g1, g2⟩ := fstF_some hh
            obtain ⟨x, y⟩ := p
            simp at h1 g2
            rw [← g2, ← h1.1]
            exact g1
        · cases h
      · rename_i h1
        injection h with h
        subst h
        simp only [not_or, Bool.not_eq_true] at h1
        have n1 := fstF_none h1.1
        have n2 := sndF_none h1.2
        have hb : b ≠ 0 := fun e => h0 (sgn_zero.1 (by rw [hs, e]; rfl))
        refine ⟨⟨fun p hp => ?_, fun p hp q hq => ?_⟩, ⟨_, rfl⟩, hs, fun _ => by simp⟩
        · rcases List.mem_append.1 hp with hp | hp
          · exact hf.1 p hp
          · obtain rfl := List.mem_singleton.1 hp
            exact ⟨h0, hb, hs⟩
        · rcases List.mem_append.1 hp with hp | hp <;> rcases List.mem_append.1 hq with hq | hq
          · exact hf.2 p hp q hq
          · obtain rfl := List.mem_singleton.1 hq
            exact ⟨fun e => absurd e (n1 p hp), fun e => absurd e (n2 p hp)⟩
          · obtain rfl := List.mem_singleton.1 hp
            exact ⟨fun e => absurd e.symm (n1 q hq), fun e => absurd e.symm (n2 q hq)⟩
          · obtain rfl := List.mem_singleton.1 hp
            obtain rfl := List.mem_singleton.1 hq
            simp
theorem holdL_in {ps : List (Int × Int)} (hf : Fair ps) {a b : Int} (hs : sgn a = sgn b) (h : a ≠ 0 → (a, b) ∈ ps) : holdL ps a b = some ps := by
  unfold holdL
  rw [if_neg (by simpa using hs)]
  split
  · rfl
  · rename_i h0
    have hm := h h0
    rw [fstF_mem hf hm, sndF_mem hf hm]
    simp
/-- The document's way: some pair has just one of the two. -/
def clash (ps : List (Int × Int)) (a b : Int) : Bool := ps.any fun p => (p.1 == a) != (p.2 == b)
theorem hold_clash {ps : List (Int × Int)} (hf : Fair ps) {a b : Int} (hs : sgn a = sgn b) (hc : clash ps a b = true) : holdL ps a b = none := by
  obtain ⟨p, hp, hx⟩ := List.any_eq_true.1 hc
  obtain ⟨x, y⟩ := p
  obtain ⟨g1, g2, g3⟩ := hf.1 _ hp
  unfold holdL
  rw [if_neg (by simpa using hs)]
  have hx : ((x == a) != (y == b)) = true := hx
  dsimp only at g1 g2 g3
  have h0 : a ≠ 0 := by
    intro e
    have hb : b = 0 := sgn_zero.1 (by rw [← hs, e]; rfl)
    rw [e, hb, beq_eq_false_iff_ne.2 g1, beq_eq_false_iff_ne.2 g2] at hx
    cases hx
  rw [if_neg h0]
  by_cases hxa : x = a
  · subst hxa
    have hyb : y ≠ b := by intro e; rw [e] at hx; simp at hx
    rw [fstF_mem hf hp]
    simp [hyb]
  · have hyb : y = b := by
      rw [beq_eq_false_iff_ne.2 hxa] at hx
      simpa using hx
    subst hyb
    rw [sndF_mem hf hp]
    simp [hxa]
theorem hold_calm {ps : List (Int × Int)} (hf : Fair ps) {a b : Int} (hs : sgn a = sgn b) (hc : clash ps a b = false) : holdL ps a b = some (if a = 0 ∨ (fstF ps a).isSome then ps else ps ++ [(a, b)]) := by
  have hc := List.any_eq_false.1 hc
  unfold holdL
  rw [if_neg (by simpa using hs)]
  by_cases h0 : a = 0
  · rw [if_pos h0, if_pos (.inl h0)]
  · rw [if_neg h0]
    cases hh : fstF ps a with
    | some p =>
      obtain ⟨g1, g2⟩ := fstF_some hh
      obtain ⟨x, y⟩ := p
      dsimp only at g2
      subst g2
      have := hc _ g1
      simp at this
      subst this
      rw [sndF_mem hf g1]
      simp
    | none =>
      have n1 := fstF_none (by rw [hh]; rfl)
      have n2 : (sndF ps b) = none := by
        cases h2 : sndF ps b with
        | none => rfl
        | some q =>
          obtain ⟨g1, g2⟩ := sndF_some h2
          have := hc _ g1
          simp [n1 _ g1, g2] at this
      rw [n2]
      simp [h0]
theorem nums_len {a b : Ev} (h : alikeE a b = true) : a.nums.length = b.nums.length := by
  simp only [alikeE, Bool.and_eq_true, beq_iff_eq] at h
  unfold Ev.nums
  rw [h.1.2]
  split <;> rfl
end Go.Proofs.Ytgjpbhgobjlneaa
