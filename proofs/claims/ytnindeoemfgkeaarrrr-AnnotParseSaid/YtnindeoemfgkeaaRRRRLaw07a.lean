/- What the tokens of any text are like: no sign is a word, and there are few; equality of arrays; chapter 7's example. -/
import Derived.Test.YtnindeoemfgkeaaRRRRRef07f
import Derived.Test.YtnindeoemfgkeaaRRRRAnnot9
import Derived.Laws.StructEq
namespace Go.Proofs.YtnindeoemfgkeaaRRRR
open Go.RowKit
theorem ownW_short {s : List UInt8} (h : s.length ≤ 2) : ownW s = 0 := by
  unfold ownW
  rw [if_neg, if_neg, if_neg, if_neg, if_neg]
  all_goals (rintro rfl; simp at h)
theorem signL_short (l : List UInt8) : (signL l).length ≤ 2 := by
  unfold signL
  split
  · rw [List.length_take]; omega
  · cases l with
    | nil => simp
    | cons c r => dsimp only; split <;> simp
theorem oneL_ok (l : List UInt8) (h : (oneL l).1 = 4) : ownW (oneL l).2 = 0 := by
  unfold oneL at h ⊢
  cases l with
  | nil => simp at h
  | cons c r =>
    dsimp only at h ⊢
    split
    · rename_i hc; rw [if_pos hc] at h; dsimp only at h; split at h <;> omega
    · rename_i hc
      rw [if_neg hc] at h
      split
      · rename_i hd; rw [if_pos hd] at h; simp at h
      · rename_i hd
        rw [if_neg hd] at h
        split
        · rename_i hs; rw [if_pos hs] at h; simp at h
        · exact ownW_short (signL_short _)
def okT (t : Tok) : Prop := t.kind = 4 → ownW t.text = 0
theorem tokF_ok : ∀ (f a : Nat) (l : List UInt8) (acc : List Tok), (∀ t ∈ acc, okT t) → ∀ t ∈ (tokF f a l acc).1, okT t
  | 0, _, _, acc, h => h
  | f + 1, a, l, acc, h => by
    unfold tokF
    split
    · intro t ht
      rcases List.mem_append.1 ht with ht | ht
      · exact h t ht
      · rw [List.mem_singleton.1 ht]; intro h4; simp at h4
    · split
      · intro t ht; simp at ht
      · split
        · intro t ht; simp at ht
        · refine tokF_ok f _ _ _ ?_
          intro t ht
          rcases List.mem_append.1 ht with ht | ht
          · exact h t ht
          · rw [List.mem_singleton.1 ht]
            intro h4
            exact oneL_ok l (by have : ((oneL l).1 : Int) = 4 := h4; omega)
theorem tokOf_ok (l : List UInt8) : ∀ i, (tokAt (tokOf l).1 i).kind = 4 → ownW (tokAt (tokOf l).1 i).text = 0 := by
  have h : ∀ t ∈ (tokOf l).1, okT t := by
    unfold tokOf
    split
    · intro t ht; simp at ht
    · exact tokF_ok _ _ _ _ (fun t ht => by simp at ht)
  intro i
  unfold tokAt
  split
  · rename_i hi
    rw [List.getElem?_eq_getElem (by omega)]
    exact h _ (List.getElem_mem _)
  · intro h4; simp at h4
theorem tokF_len : ∀ (f a : Nat) (l : List UInt8) (acc : List Tok), (tokF f a l acc).1.length ≤ acc.length + f
  | 0, _, _, acc => Nat.le_refl _
  | f + 1, a, l, acc => by
    unfold tokF
    split
    · simp
    · split
      · simp
      · split
        · simp
        · have := tokF_len f (a + (oneL l).2.length + sk false (l.drop (oneL l).2.length)) ((l.drop (oneL l).2.length).drop (sk false (l.drop (oneL l).2.length))) (acc ++ [⟨(oneL l).1, (oneL l).2, a⟩])
          simp at this ⊢
          omega
theorem tokOf_len (l : List UInt8) : (tokOf l).1.length ≤ 1000000 := by
  unfold tokOf
  split
  · simp
  · have := tokF_len (l.length + 1) (sk false l) (l.drop (sk false l)) []
    simp only [List.length_nil] at this
    omega

/-- Arrays, element by element. -/
@[go_sem] def eqElems (d : Nat) (elem : TypeId) (n : Nat) (xs ys : Array Value) : List Nat → Sem Bool
  | [] => pure true
  | i :: r => do
    let a ← part elem xs (i * n)
    let b ← part elem ys (i * n)
    let q ← Op.equalIn d elem a b
    if (!q) = true then pure false else eqElems d elem n xs ys r
theorem run_equalIn_array {P : Program} (w : World) (d : Nat) (t elem : TypeId) (len n : Nat) (xs ys : Array Value) (ht : P.underlying t = some (.array len elem)) (hs : ∀ w, (sizeOf elem).run P w = .ok n w) :
    (Op.equalIn (d + 1) t (.agg xs) (.agg ys)).run P w = (eqElems d elem n xs ys (List.range len)).run P w := by
  simp only [Op.equalIn, Sem.run_bind, run_underlying ht, Result.andThen_ok, hs]
  rw [Std.Legacy.Range.forIn_eq_forIn_range', List.range_eq_range']
  simp only [Std.Legacy.Range.size, Nat.sub_zero, Nat.add_sub_cancel, Nat.div_one]
  generalize List.range' 0 len 1 = fs
  induction fs generalizing w with
  | nil => simp [eqElems]
  | cons i fs ih =>
    simp only [List.forIn_cons, eqElems, Sem.run_bind, Sem.run_ite]
    generalize (part elem xs (i * n)).run P w = r1
    cases r1 with
    | ok a w1 =>
      simp only [Result.andThen_ok]
      generalize (part elem ys (i * n)).run P w1 = r2
      cases r2 with
      | ok b w2 =>
        simp only [Result.andThen_ok]
        generalize (Op.equalIn d elem a b).run P w2 = r3
        cases r3 with
        | ok r w3 =>
          cases r
          · simp only [Result.andThen_ok, Bool.not_false, if_true, Sem.run_pure]
          · simp only [Result.andThen_ok, Bool.not_true, Bool.false_eq_true, if_false, Sem.run_pure]
            exact ih w3
        | halt x w3 => simp [Result.andThen]
      | halt x w2 => simp [Result.andThen]
    | halt x w1 => simp [Result.andThen]
@[go_sem] theorem eq_Own4 (d : Nat) (xs ys : Array Value) (w : World) : (Op.equalIn (d + 1) 58 (.agg xs) (.agg ys)).run Try.prog w = (eqElems d 57 2 xs ys [0, 1, 2, 3]).run Try.prog w :=
  run_equalIn_array w d 58 57 4 2 xs ys Try.underlying58 (fun _ => by kernel_rfl)
theorem ex1 : tokOf [100, 97, 116, 97, 32, 73, 116, 101, 109, 32, 120] = ([⟨1, [100, 97, 116, 97], 0⟩, ⟨1, [73, 116, 101, 109], 5⟩, ⟨1, [120], 10⟩, ⟨0, [], 11⟩], 0, 0) := by kernel_rfl
theorem ex2 : tokOf [73, 116, 101, 109, 32, 120] = ([⟨1, [73, 116, 101, 109], 0⟩, ⟨1, [120], 5⟩, ⟨0, [], 6⟩], 0, 0) := by kernel_rfl
theorem ex3 : varL [⟨1, [100, 97, 116, 97], 0⟩, ⟨1, [73, 116, 101, 109], 5⟩, ⟨1, [120], 10⟩, ⟨0, [], 11⟩] [[100, 97, 116, 97]] 0 = ([120], ⟨2, [73, 116, 101, 109], 0, (3, 1), (0, 0), (0, 0), (0, 0)⟩, 0, 3, 0, 0) := by kernel_rfl
theorem ex4 : varL [⟨1, [73, 116, 101, 109], 0⟩, ⟨1, [120], 5⟩, ⟨0, [], 6⟩] [] 0 = ([120], ⟨2, [73, 116, 101, 109], 0, (7, 0), (0, 0), (0, 0), (0, 0)⟩, 0, 2, 0, 0) := by kernel_rfl
end Go.Proofs.YtnindeoemfgkeaaRRRR
