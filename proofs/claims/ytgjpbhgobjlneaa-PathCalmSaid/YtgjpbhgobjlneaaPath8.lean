/- The contract of path.Wild. Conditions: fewer than a million objects. -/
import Derived.Test.YtgjpbhgobjlneaaPath7
namespace Go.Proofs.Ytgjpbhgobjlneaa
open Go.RowKit Go.Sort
def RL (l : List Cl) (o : Int) : List Int := reachL l (rootsL l) o
def wildB (l : List Cl) (k : Nat) (c : Cl) : Bool := !c.dead && decide (0 < c.o0) && (RL l c.o0).contains ((k : Int) + 1)
def wildTo (l : List Cl) : Nat → List Cl → List Int
  | _, [] => []
  | k, c :: r => (if wildB l k c then [((k : Nat) : Int) + 1] else []) ++ wildTo l (k + 1) r
def wildL (l : List Cl) : List Int := wildTo l 0 l
theorem wildTo_append (L : List Cl) : ∀ (l r : List Cl) (k : Nat), wildTo L k (l ++ r) = wildTo L k l ++ wildTo L (k + l.length) r
  | [], r, k => by simp [wildTo]
  | c :: l, r, k => by
    simp only [List.cons_append, wildTo, wildTo_append L l r (k + 1), List.length_cons, List.append_assoc]
    congr 2
    rw [show k + 1 + l.length = k + (l.length + 1) by omega]
theorem wildTo_snoc {L l : List Cl} {k : Nat} {x : Cl} (h : l[k]? = some x) : wildTo L 0 (l.take (k + 1)) = wildTo L 0 (l.take k) ++ if wildB L k x then [((k : Nat) : Int) + 1] else [] := by
  have hk : k < l.length := (List.getElem?_eq_some_iff.1 h).1
  rw [take_snocG h, wildTo_append, List.length_take, Nat.min_eq_left (by omega)]
  simp [wildTo]
theorem wildTo_len0 (L : List Cl) : ∀ (l : List Cl) (k : Nat), (wildTo L k l).length ≤ l.length
  | [], k => by simp [wildTo]
  | c :: r, k => by
    have := wildTo_len0 L r (k + 1)
    rw [wildTo, List.length_append]
    split <;> simp <;> omega
theorem wildTo_len (L l : List Cl) (k : Nat) : (wildTo L 0 (l.take k)).length ≤ k := by
  have := wildTo_len0 L (l.take k) 0
  rw [List.length_take] at this
  omega
theorem sortL_sorted (xs : List Int) : (sortL xs).Pairwise (· ≤ ·) := by
  have := List.pairwise_mergeSort (le := fun x y : Int => decide (x ≤ y)) (fun a b c h1 h2 => by simp at *; omega) (fun a b => by simp; omega) xs
  exact this.imp (fun h => by simpa using h)
/-- A row of ints at a block's start. -/
def Rw (w : World) (A : Option Addr) (xs : List Int) (ok : Nat → Prop) : Prop := xs = [] ∨ ∃ b, A = some ⟨b, 0, none⟩ ∧ b < w.heap.size ∧ ok b ∧ ∀ i x, xs[i]? = some x → w.cell? ⟨b, i, none⟩ = some (.int .i64 x)
theorem Rw.keep {w w' : World} {A : Option Addr} {xs : List Int} {ok ok' : Nat → Prop} (h : Rw w A xs ok) (hk : ∀ b, b < w.heap.size → ok b → w'.heap[b]? = w.heap[b]? ∧ b < w'.heap.size ∧ ok' b) : Rw w' A xs ok' := by
  rcases h with h | ⟨b, hA, hb, ho, hc⟩
  · exact .inl h
  · obtain ⟨k1, k2, k3⟩ := hk b hb ho
    exact .inr ⟨b, hA, k2, k3, fun i x hx => (World.cell?_of_block (a := ⟨b, i, none⟩) k1).trans (hc i x hx)⟩
theorem Rw.of_own {W : World} {base c : Nat} {A : Option Addr} {xs : List Int} (h : W.ownsRow base 3 1 (.slice A xs.length c) xs.length (xs.map (Value.int .i64))) {ok : Nat → Prop} (ho : ∀ b, base ≤ b → b < W.heap.size → ok b) : Rw W A xs ok := by
  rcases h.2 with ⟨h1, h0⟩ | ⟨g, cap, cur, h1, hb, hg, _⟩
  · exact .inl (List.length_eq_zero_iff.1 h0)
  · injection h1 with e1 e2 e3
    subst e1; subst e3
    have hlt := (Array.getElem?_eq_some_iff.1 hg).1
    refine .inr ⟨g, rfl, hlt, ho g hb hlt, fun i x hx => ?_⟩
    have hi := (List.getElem?_eq_some_iff.1 hx).1
    rw [h.cellAt i (by omega)]; simp [hx]
theorem search_any (W : World) (xs : List Int) (A : Option Addr) (c : Nat) (x : Int) (ok : Nat → Prop) (h : Rw W A xs ok) (hn : xs.length ≤ 1000000) (hs : xs.Pairwise (· ≤ ·)) :
    Calls Try.prog 44 #[.slice A xs.length c, .int .i64 x] W fun e W' => (∃ m : Int, e = .returned (.tuple #[.int .i64 m, .bool (xs.contains x)])) ∧ ∃ q, W' = W.drewN q := by
  rcases h with rfl | ⟨b, rfl, _, _, hc⟩
  · refine (Try.slices_BinarySearch_int_empty A c x W).mono ?_
    rintro e W' ⟨rfl, rfl⟩
    exact ⟨⟨0, rfl⟩, 0, rfl⟩
  · refine (Try.slices_BinarySearch_int b 0 xs.length c xs x W (Nat.le_refl _) (by omega) (fun j hj => by rw [Nat.zero_add]; exact hc j _ (by simp [List.getD, List.getElem?_eq_getElem hj])) (by rw [List.take_of_length_le (Nat.le_refl _)]; exact hs)).mono ?_
    rintro e W' ⟨rfl, q, rfl⟩
    exact ⟨⟨_, by rw [List.take_of_length_le (Nat.le_refl _)]⟩, q, rfl⟩
/-- What is kept of earlier answers. -/
def Ch (l : List Cl) (w : World) (mb : Nat) (out : Value) (f : Int → Option Value) : Prop := ∀ o v, f o = some v → ∃ A c, v = .slice A (RL l o).length c ∧ Rw w A (RL l o) fun b => some b ≠ out.ownBlock ∧ b ≠ mb
section
variable {l : List Cl} {w w' : World} {mb : Nat} {out : Value} {f : Int → Option Value}
theorem Ch.start : Ch l w mb out fun _ => none := fun _ _ h => by cases h
theorem Ch.grw (h : Ch l w mb out f) (g : Grw w w') : Ch l w' mb out f := fun o v hv => by
  obtain ⟨A, c, e, hr⟩ := h o v hv
  exact ⟨A, c, e, hr.keep fun b hb ho => ⟨g.below.block b hb, Nat.lt_of_lt_of_le hb g.below.size, ho⟩⟩
theorem Ch.pb (h : Ch l w mb out f) (ob : Obj) : Ch l (pb w mb ob) mb out f := fun o v hv => by
  obtain ⟨A, c, e, hr⟩ := h o v hv
  exact ⟨A, c, e, hr.keep fun b hb ho => ⟨pb_get_other _ _ _ _ ho.2, by rw [pb_size]; exact hb, ho⟩⟩
theorem Ch.add (h : Ch l w mb out f) {o : Int} {A : Option Addr} {base c : Nat} (ho : w.ownsRow base 3 1 (.slice A (RL l o).length c) (RL l o).length ((RL l o).map (Value.int .i64))) (hm : mb < base) (hout : ∀ k, out.ownBlock = some k → k < base) : Ch l w mb out (upd f o (.slice A (RL l o).length c)) := fun o' v hv => by
  unfold upd at hv
  split at hv
  · rename_i e
    subst e
    injection hv with hv
    exact ⟨A, c, hv.symm, .of_own ho fun b hb _ => ⟨fun e => by have := hout b e.symm; omega, by omega⟩⟩
  · exact h o' v hv
theorem Ch.app {g n cap : Nat} {tmp : Obj} (h : Ch l w mb out f) (hgr : (w.alloc tmp).grownBy w' out.ownBlock) (hw : out.ownBlock = some g ∨ g = w.heap.size + 1) : Ch l w' mb (.slice (some ⟨g, 0, none⟩) n cap) f := fun o v hv => by
  obtain ⟨A, c, e, hr⟩ := h o v hv
  have hs := hgr.size
  rw [World.size_alloc] at hs
  refine ⟨A, c, e, hr.keep fun b hb ho => ⟨(hgr.block b (by rw [World.size_alloc]; omega) ho.1).trans (Below.heap_alloc _ _ _ hb), by omega, fun e => ?_, ho.2⟩⟩
  simp [Value.ownBlock] at e
  subst e
  rcases hw with hw | hw
  · exact ho.1 hw.symm
  · omega
end
end Go.Proofs.Ytgjpbhgobjlneaa
