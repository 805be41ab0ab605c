/- A slice of things, opened as a law's row hands it over; an array of four ints. No condition. -/
import Derived.Test.YtgjpbhgobjlneaaShell
namespace Go.Proofs.Ytgjpbhgobjlneaa
open Go.ChangeShapes Go.WideShapes Go.ChangeAt Go.RowKit Go.Joins Go.Deep
theorem list_of {α : Type} (Q : Nat → α → Prop) : ∀ n, (∀ i, i < n → ∃ x, Q i x) → ∃ l : List α, l.length = n ∧ ∀ i x, l[i]? = some x → Q i x
  | 0, _ => ⟨[], rfl, fun i x h => by simp at h⟩
  | n + 1, h => by
    obtain ⟨l, hl, hq⟩ := list_of Q n (fun i hi => h i (by omega))
    obtain ⟨x, hx⟩ := h n (by omega)
    refine ⟨l ++ [x], by simp [hl], fun i y hy => ?_⟩
    rcases Nat.lt_or_ge i n with hlt | hge
    · rw [List.getElem?_append_left (by omega)] at hy; exact hq i y hy
    · rw [List.getElem?_append_right (by omega)] at hy
      have hi : i - l.length = 0 := by
        rcases Nat.eq_zero_or_pos (i - l.length) with h | h
        · exact h
        · rw [List.getElem?_eq_none (by simp; omega)] at hy; cases hy
      rw [hi] at hy
      simp at hy
      subst hy
      obtain rfl : i = n := by omega
      exact hx
theorem add_none (b o n : Nat) : (⟨b, o, none⟩ : Addr).add n = ⟨b, o + n, none⟩ := by
  unfold Addr.add
  split
  · rename_i h; subst h; simp
  · simp
section
variable {H : Type} {enc : TypeId × Value → H} {P : Program} {W : World} {e t : TypeId} {α : Type} {ce : α → List Value} {ok : α → Prop} {sz : Nat}
theorem slice_in {fuel : Nat} {cs : List Value} {y : DataW H × List MemPlace} (ht : P.underlying t = some (.slice e)) (hc : P.cellsOf e = sz) (hsz : 0 < sz) (hen : ∀ x, (ce x).length = sz)
    (hof : ∀ n cs y, DataW.trod enc P W 0 (fun _ => true) true n e cs = some y → ∃ x : α, cs = ce x ∧ ok x) (h : DataW.trod enc P W 0 (fun _ => true) true fuel t cs = some y) :
    ∃ (A : Option Addr) (c : Nat) (l : List α), cs = [.slice A l.length c] ∧ l.length ≤ maxLen ∧ SlB ce sz W W.heap.size A l ∧ ∀ x ∈ l, ok x := by
  rcases DataW.trod_slice ht h with ⟨hcs, _⟩ | ⟨a, len, cap, elems, rest, n, _, rfl, _, _, hl, hm, hlen, hel, _, _⟩
  · exact ⟨none, 0, [], hcs, Nat.zero_le _, .inl rfl, fun x hx => by simp at hx⟩
  · rw [hc] at hel
    obtain ⟨l, hll, hq⟩ := list_of (fun i (x : α) => W.cells? 0 (a.add (i * sz)) sz = some (ce x) ∧ ok x) len (fun i hi => by
      have h1 := hel i hi
      rw [List.getElem?_eq_getElem (by omega)] at h1
      obtain ⟨cs', hcs, hy⟩ := Option.bind_eq_some_iff.1 h1
      obtain ⟨x, rfl, hx⟩ := hof _ _ _ hy
      exact ⟨x, hcs, hx⟩)
    refine ⟨some a, cap, l, by rw [hll], by omega, ?_, fun x hx => by
      obtain ⟨i, hi⟩ := List.getElem?_of_mem hx
      exact (hq i x hi).2⟩
    by_cases hnil : l = []
    · exact .inl hnil
    · obtain ⟨b, off, spot⟩ := a
      have h0' := (World.cells?_some (hq 0 _ (List.getElem?_eq_getElem (List.length_pos_iff.2 hnil))).1).2.2 0 hsz
      obtain ⟨v0, hv0⟩ : ∃ v0, (ce (l[0]'(List.length_pos_iff.2 hnil)))[0]? = some v0 := ⟨_, List.getElem?_eq_getElem (by rw [hen]; exact hsz)⟩
      have h0 := h0'.trans hv0
      simp only [Nat.zero_mul] at h0
      have hspot : spot = none := by simpa [Addr.add] using World.cell?_spot h0
      subst hspot
      rw [add_none, add_none] at h0
      have hb : b < W.heap.size := World.block_lt_of_cell? W _ h0
      refine .inr ⟨b, off, rfl, hb, hb, fun i x hx j u hu => ?_⟩
      have hj : j < sz := by rw [← hen x]; exact (List.getElem?_eq_some_iff.1 hu).1
      have := (World.cells?_some (hq i x hx).1).2.2 j hj
      rw [add_none, add_none, hu] at this
      exact this
theorem arr4_of {n : Nat} {cs : List Value} {y : DataW H × List MemPlace} (ht : P.underlying t = some (.array 4 e)) (he : P.underlying e = some (.int .i64)) (hc : P.cellsOf t = 4) (hc1 : P.cellsOf e = 1) (h : DataW.trod enc P W 0 (fun _ => true) true n t cs = some y) :
    ∃ a b c d : Int, cs = [.int .i64 a, .int .i64 b, .int .i64 c, .int .i64 d] ∧ (Lit.int .i64 a).wf = true ∧ (Lit.int .i64 b).wf = true ∧ (Lit.int .i64 c).wf = true ∧ (Lit.int .i64 d).wf = true := by
  obtain ⟨xs, m, _, _, hl, hxl, hf⟩ := DataW.trod_array ht h
  rw [hc] at hl
  have f0 := hf 0 (by omega)
  have f1 := hf 1 (by omega)
  have f2 := hf 2 (by omega)
  have f3 := hf 3 (by omega)
  rw [List.getElem?_eq_getElem (by omega), hc1] at f0 f1 f2 f3
  match cs, hl with
  | [z0, z1, z2, z3], _ =>
    obtain ⟨a, e0, _, w0⟩ := DataW.trod_int he f0
    obtain ⟨b, e1, _, w1⟩ := DataW.trod_int he f1
    obtain ⟨c, e2, _, w2⟩ := DataW.trod_int he f2
    obtain ⟨d, e3, _, w3⟩ := DataW.trod_int he f3
    simp at e0 e1 e2 e3
    subst e0 e1 e2 e3
    exact ⟨a, b, c, d, rfl, w0, w1, w2, w3⟩
end
end Go.Proofs.Ytgjpbhgobjlneaa
