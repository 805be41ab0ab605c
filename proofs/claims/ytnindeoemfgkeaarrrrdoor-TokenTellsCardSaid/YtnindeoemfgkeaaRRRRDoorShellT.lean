/- Slices of tokens, and arrays of two of them, opened as a law's row hands them over. No condition. -/
import Derived.Test.YtnindeoemfgkeaaRRRRDoorShell
import Derived.Test.YtnindeoemfgkeaaRRRRDoorRef03Of
namespace Go.Proofs.YtnindeoemfgkeaaRRRRDoor
open Go.ChangeShapes Go.WideShapes Go.ChangeAt Go.RowKit Go.Joins Go.Deep
theorem list_of {α : Type} (Q : Nat → α → Prop) : ∀ n, (∀ i, i < n → ∃ x, Q i x) → ∃ l : List α, l.length = n ∧ ∀ i x, l[i]? = some x → Q i x
  | 0, _ => ⟨[], rfl, fun i x h => by simp at h⟩
  | n + 1, h => by
    obtain ⟨l, hl, hq⟩ := list_of Q n (fun i hi => h i (by omega))
    obtain ⟨x, hx⟩ := h n (by omega)
    refine ⟨l ++ [x], by simp [hl], fun i y hy => ?_⟩
    rcases Nat.lt_or_ge i n with hlt | hge
    · rw [List.getElem?_append_left (by omega)] at hy; exact hq i y hy
    · rw [List.getElem?_append_right (by omega)] at hy
      have hi : i - l.length = 0 := by
        rcases Nat.eq_zero_or_pos (i - l.length) with h | h
        · exact h
        · rw [List.getElem?_eq_none (by simp; omega)] at hy; cases hy
      rw [hi] at hy
      simp at hy
      subst hy
      obtain rfl : i = n := by omega
      exact hx
theorem add_none (b o n : Nat) : (⟨b, o, none⟩ : Addr).add n = ⟨b, o + n, none⟩ := by
  unfold Addr.add
  split
  · rename_i h; subst h; simp
  · simp
section
variable {H : Type} {enc : TypeId × Value → H} {P : Program} {W : World} {e t : TypeId} {f0 f1 f2 : Field}
theorem tok_of {n : Nat} {cs : List Value} {y : DataW H × List MemPlace} (he : P.underlying e = some (.struct #[f0, f1, f2])) (hone : oneCellFields P #[f0, f1, f2] = true) (hc : P.cellsOf e = 3)
    (u0 : P.underlying f0.type = some (.int .i64)) (u1 : P.underlying f1.type = some .string) (u2 : P.underlying f2.type = some (.int .i64)) (h : DataW.trod enc P W 0 (fun _ => true) true n e cs = some y) :
    ∃ x : Tok, cs = x.cells ∧ x.text.length ≤ maxLen := by
  obtain ⟨y0, y1, y2, m, _, hl, h0, h1, h2⟩ := Go.Deep.trod_struct3 he h
  obtain ⟨o0, k0⟩ := hone_of hone 0 f0 rfl
  obtain ⟨o1, k1⟩ := hone_of hone 1 f1 rfl
  obtain ⟨o2, k2⟩ := hone_of hone 2 f2 rfl
  rw [hc] at hl
  match cs, hl with
  | [z0, z1, z2], _ =>
    obtain ⟨k, e0, _, _⟩ := DataW.trod_int u0 (by simpa [o0, k0] using h0)
    obtain ⟨s, e1, _, hs⟩ := DataW.trod_string u1 (by simpa [o1, k1] using h1)
    obtain ⟨p, e2, _, _⟩ := DataW.trod_int u2 (by simpa [o2, k2] using h2)
    simp at e0 e1 e2
    subst e0 e1 e2
    exact ⟨⟨k, s.data.toList, p⟩, rfl, by show s.data.toList.length ≤ maxLen; rw [← size_eq]; exact hs⟩
theorem toks_in {fuel : Nat} {cs : List Value} {y : DataW H × List MemPlace} (ht : P.underlying t = some (.slice e)) (he : P.underlying e = some (.struct #[f0, f1, f2])) (hone : oneCellFields P #[f0, f1, f2] = true) (hc : P.cellsOf e = 3)
    (u0 : P.underlying f0.type = some (.int .i64)) (u1 : P.underlying f1.type = some .string) (u2 : P.underlying f2.type = some (.int .i64)) (h : DataW.trod enc P W 0 (fun _ => true) true fuel t cs = some y) :
    ∃ (A : Option Addr) (c : Nat) (l : List Tok), cs = [.slice A l.length c] ∧ l.length ≤ maxLen ∧ SlB Tok.cells 3 W W.heap.size A l ∧ ∀ x ∈ l, x.text.length ≤ maxLen := by
  rcases DataW.trod_slice ht h with ⟨hcs, _⟩ | ⟨a, len, cap, elems, rest, n, _, rfl, _, _, hl, hm, hlen, hel, _, _⟩
  · exact ⟨none, 0, [], hcs, Nat.zero_le _, .inl rfl, fun x hx => by simp at hx⟩
  · rw [hc] at hel
    obtain ⟨l, hll, hq⟩ := list_of (fun i (x : Tok) => W.cells? 0 (a.add (i * 3)) 3 = some x.cells ∧ x.text.length ≤ maxLen) len (fun i hi => by
      have h1 := hel i hi
      rw [List.getElem?_eq_getElem (by omega)] at h1
      obtain ⟨cs', hcs, hy⟩ := Option.bind_eq_some_iff.1 h1
      obtain ⟨x, rfl, hx⟩ := tok_of he hone hc u0 u1 u2 hy
      exact ⟨x, hcs, hx⟩)
    refine ⟨some a, cap, l, by rw [hll], by omega, ?_, fun x hx => by
      obtain ⟨i, hi⟩ := List.getElem?_of_mem hx
      exact (hq i x hi).2⟩
    by_cases hnil : l = []
    · exact .inl hnil
    · obtain ⟨b, off, spot⟩ := a
      have h0 := (World.cells?_some (hq 0 _ (List.getElem?_eq_getElem (List.length_pos_iff.2 hnil))).1).2.2 0 (by omega)
      simp only [Nat.zero_mul, Tok.cells, List.getElem?_cons_zero] at h0
      have hspot : spot = none := by simpa [Addr.add] using World.cell?_spot h0
      subst hspot
      rw [add_none, add_none] at h0
      have hb : b < W.heap.size := World.block_lt_of_cell? W _ h0
      refine .inr ⟨b, off, rfl, hb, hb, fun i x hx j u hu => ?_⟩
      have hj : j < 3 := (List.getElem?_eq_some_iff.1 hu).1
      have := (World.cells?_some (hq i x hx).1).2.2 j hj
      rw [add_none, add_none, hu] at this
      exact this
theorem okWide_array {n : Nat} {r : Reach} {b : Nat} {v : Value} {at_ : TypeId} (ht : P.underlying at_ = some (.array n e)) (h : Value.okWide P W r b at_ v) : ∃ cs, v = .agg cs ∧ cs.size = P.cellsOf at_ := by
  simp only [Value.okWide, ht] at h
  obtain ⟨cs, h1, h2, _⟩ := h
  exact ⟨cs, h1, h2⟩
theorem two_in {r : Reach} {b0 : Nat} {at_ : TypeId} {v : Value} {d : DataW H} {p : List MemPlace} (hu : P.underlying at_ = some (.array 2 t)) (hC : P.cellsOf at_ = 2) (hc1 : P.cellsOf t = 1) (ht : P.underlying t = some (.slice e)) (he : P.underlying e = some (.struct #[f0, f1, f2])) (hone : oneCellFields P #[f0, f1, f2] = true) (hc : P.cellsOf e = 3)
    (u0 : P.underlying f0.type = some (.int .i64)) (u1 : P.underlying f1.type = some .string) (u2 : P.underlying f2.type = some (.int .i64)) (hv : Value.okWide P W r b0 at_ v) (h : DataW.Trod enc P W 0 (fun _ => true) true at_ v d p) :
    ∃ (A1 : Option Addr) (c1 : Nat) (a : List Tok) (A2 : Option Addr) (c2 : Nat) (b : List Tok), v = .agg #[.slice A1 a.length c1, .slice A2 b.length c2] ∧ a.length ≤ maxLen ∧ b.length ≤ maxLen ∧ SlB Tok.cells 3 W W.heap.size A1 a ∧ SlB Tok.cells 3 W W.heap.size A2 b ∧ ∀ x ∈ a, x.text.length ≤ maxLen := by
  obtain ⟨cs, rfl, hsz⟩ := okWide_array hu hv
  obtain ⟨z0, z1, rfl⟩ := array2 (hsz.trans hC)
  obtain ⟨fuel, hf⟩ := h
  obtain ⟨xs, m, _, _, _, hxl, hx⟩ := DataW.trod_array hu hf
  have h0 := hx 0 (by omega)
  have h1 := hx 1 (by omega)
  rw [List.getElem?_eq_getElem (by omega), hc1] at h0 h1
  obtain ⟨A1, c1, a, e0, hn1, hs1, hm1⟩ := toks_in ht he hone hc u0 u1 u2 h0
  obtain ⟨A2, c2, b, e1, hn2, hs2, _⟩ := toks_in ht he hone hc u0 u1 u2 h1
  simp [Value.cells] at e0 e1
  subst e0 e1
  exact ⟨A1, c1, a, A2, c2, b, rfl, hn1, hn2, hs1, hs2, hm1⟩
end
end Go.Proofs.YtnindeoemfgkeaaRRRRDoor
