/- Plain helpers, no program in sight: a block known whole that a method writes; slices below a bound. Conditions: none. -/
import Derived.Test.YtgjpbhgobjlneaaLib
import Derived.StillTailTactics
namespace Go.Proofs.Ytgjpbhgobjlneaa
open Go.RowKit

/-- The world with block g replaced. -/
def sb (w : World) (g : Nat) (t : TypeId) (cs : Array Value) : World := { w with heap := w.heap.setIfInBounds g (.cells cs t) }
section
variable (w : World) (g : Nat) (t : TypeId) (cs : Array Value)
theorem sb_self (h : w.heap[g]? = some (.cells cs t)) : sb w g t cs = w := by
  have : w.heap.setIfInBounds g (.cells cs t) = w.heap := by
    apply Array.ext_getElem?
    intro k
    rw [Array.getElem?_setIfInBounds]
    split
    · rename_i e; subst e
      split
      · exact h.symm
      · rename_i hn; rw [Array.getElem?_eq_none (by omega)]
    · rfl
  unfold sb; rw [this]
@[go_sem] theorem sb_size : (sb w g t cs).heap.size = w.heap.size := by simp [sb]
@[go_sem ↓] theorem lt_sb (n : Nat) : (n < (sb w g t cs).heap.size) = (n < w.heap.size) := by rw [sb_size]
@[go_sem] theorem sb_get_same (h : g < w.heap.size) : (sb w g t cs).heap[g]? = some (.cells cs t) := by simp [sb, h]
@[go_sem] theorem sb_get_other (n : Nat) (h : n ≠ g) : (sb w g t cs).heap[n]? = w.heap[n]? := by
  simp only [sb]; rw [Array.getElem?_setIfInBounds, if_neg (fun e => h e.symm)]
@[go_sem] theorem sb_cell_same (i : Nat) (h : g < w.heap.size) : (sb w g t cs).cell? ⟨g, i, none⟩ = cs[i]? := by
  simp [World.cell?, sb_get_same w g t cs h]
@[go_sem] theorem sb_cell_other (n i : Nat) (h : n ≠ g) : (sb w g t cs).cell? ⟨n, i, none⟩ = w.cell? ⟨n, i, none⟩ :=
  World.cell?_of_block (a := ⟨n, i, none⟩) (sb_get_other w g t cs n h)
@[go_sem] theorem sb_frozen_same (i : Nat) (h : g < w.heap.size) : (sb w g t cs).frozen? ⟨g, i, none⟩ = false := by
  simp [World.frozen?, sb_get_same w g t cs h]
@[go_sem] theorem sb_frozen_other (n i : Nat) (h : n ≠ g) : (sb w g t cs).frozen? ⟨n, i, none⟩ = w.frozen? ⟨n, i, none⟩ :=
  World.frozen?_of_block (a := ⟨n, i, none⟩) (sb_get_other w g t cs n h)
@[go_sem] theorem sb_setCell (i : Nat) (v : Value) : (sb w g t cs).setCell ⟨g, i, none⟩ v = sb w g t (cs.setIfInBounds i v) := by
  simp only [sb, World.setCell]
  congr 1
  apply Array.ext_getElem?
  intro k
  simp only [Array.getElem?_modify, Array.getElem?_setIfInBounds]
  by_cases hk : g = k
  · subst hk
    by_cases hl : g < w.heap.size
    · simp [hl]
    · simp [hl]
  · simp [hk]
@[go_sem] theorem sb_sb (cs' : Array Value) : sb (sb w g t cs) g t cs' = sb w g t cs' := by simp [sb]
@[go_sem] theorem sb_wext (h : Array Obj) (d : Nat) (hg : g < w.heap.size) : sb (wext w h d) g t cs = wext (sb w g t cs) h d := by
  simp only [sb, wext]
  congr 1
  rw [Array.setIfInBounds_append_left hg]
@[go_sem] theorem sb_alloc (o : Obj) (hg : g < w.heap.size) : sb (w.alloc o) g t cs = (sb w g t cs).alloc o := by
  simp only [sb, World.alloc]
  congr 1
  apply Array.ext_getElem?
  intro k
  rw [Array.getElem?_setIfInBounds, Array.getElem?_push, Array.getElem?_push, Array.getElem?_setIfInBounds, Array.size_push, Array.size_setIfInBounds]
  by_cases hk : g = k
  · subst hk
    rw [if_pos rfl, if_pos (by omega), if_neg (by omega), if_pos rfl, if_pos hg]
  · rw [if_neg hk, if_neg hk]
@[go_sem] theorem sb_alloc_at (c : Array Value) (t' : TypeId) (n : Nat) (hn : n = w.heap.size) : sb (w.alloc (.cells c t')) n t cs = w.alloc (.cells cs t) := by
  subst hn
  simp only [sb, World.alloc]
  congr 1
  apply Array.ext_getElem?
  intro k
  rw [Array.getElem?_setIfInBounds, Array.getElem?_push, Array.getElem?_push, Array.size_push]
  by_cases hk : w.heap.size = k
  · subst hk; simp
  · rw [if_neg hk, if_neg (fun e => hk e.symm), if_neg (fun e => hk e.symm)]
@[go_sem] theorem sb_drew : sb w.drew g t cs = (sb w g t cs).drew := rfl
@[go_sem] theorem sb_drewN (n : Nat) : sb (w.drewN n) g t cs = (sb w g t cs).drewN n := rfl
end
/-- A slice that reads as these things, below a bound. -/
def SlB {α : Type} (enc : α → List Value) (sz : Nat) (w : World) (B : Nat) (A : Option Addr) (xs : List α) : Prop :=
  xs = [] ∨ ∃ b o, A = some ⟨b, o, none⟩ ∧ b < B ∧ b < w.heap.size ∧ ∀ i x, xs[i]? = some x → ∀ j u, (enc x)[j]? = some u → w.cell? ⟨b, o + i * sz + j, none⟩ = some u
section
variable {α : Type} {enc : α → List Value} {sz B : Nat} {w w' : World} {A : Option Addr} {xs : List α}
theorem SlB.nil : SlB enc sz w B A [] := .inl rfl
theorem Sl.toB (h : Sl enc sz w A xs) (hB : w.heap.size ≤ B) : SlB enc sz w B A xs := by
  rcases h with h | ⟨b, o, hA, hb, hc⟩
  · exact .inl h
  · exact .inr ⟨b, o, hA, by omega, hb, hc⟩
theorem SlB.keep (h : SlB enc sz w B A xs) (hk : ∀ b, b < B → b < w.heap.size → w'.heap[b]? = w.heap[b]? ∧ b < w'.heap.size) : SlB enc sz w' B A xs := by
  rcases h with h | ⟨b, o, hA, hb, hl, hc⟩
  · exact .inl h
  · exact .inr ⟨b, o, hA, hb, (hk b hb hl).2, fun i x hx j u hu => (World.cell?_of_block (a := ⟨b, _, none⟩) (hk b hb hl).1).trans (hc i x hx j u hu)⟩
theorem SlB.ext (h : SlB enc sz w B A xs) (xh : Array Obj) (xd : Nat) : SlB enc sz (wext w xh xd) B A xs :=
  h.keep fun b _ hl => ⟨wext_heap_lt w xh xd b hl, by rw [wext_size]; omega⟩
theorem SlB.alloc (h : SlB enc sz w B A xs) (o : Obj) : SlB enc sz (w.alloc o) B A xs :=
  h.keep fun b _ hl => ⟨Below.heap_alloc w o b hl, by simp; omega⟩
theorem SlB.drewN (h : SlB enc sz w B A xs) (n : Nat) : SlB enc sz (w.drewN n) B A xs := h
theorem SlB.drew (h : SlB enc sz w B A xs) : SlB enc sz w.drew B A xs := h
theorem SlB.sb (h : SlB enc sz w B A xs) {g : Nat} (hg : B ≤ g) (t : TypeId) (cs : Array Value) : SlB enc sz (sb w g t cs) B A xs :=
  h.keep fun b hb hl => ⟨sb_get_other w g t cs b (by omega), by rw [sb_size]; exact hl⟩
theorem SlB.setCell (h : SlB enc sz w B A xs) {p : Addr} (hp : B ≤ p.block) (v : Value) : SlB enc sz (w.setCell p v) B A xs :=
  h.keep fun b hb hl => ⟨Below.heap_setCell w p v b (by omega), by rw [World.size_setCell]; exact hl⟩
theorem SlB.grw (h : SlB enc sz w B A xs) (g : Grw w w') : SlB enc sz w' B A xs := by obtain ⟨xh, xd, rfl⟩ := g; exact h.ext xh xd
theorem SlB.at_ (h : SlB enc sz w B A xs) {i : Nat} {x : α} (hx : xs[i]? = some x) : ∃ b o, A = some ⟨b, o, none⟩ ∧ b < B ∧ b < w.heap.size ∧ ∀ j u, (enc x)[j]? = some u → w.cell? ⟨b, o + i * sz + j, none⟩ = some u := by
  rcases h with h | ⟨b, o, hA, hb, hl, hc⟩
  · subst h; simp at hx
  · exact ⟨b, o, hA, hb, hl, hc i x hx⟩
end

theorem wpStill_of_quiet {P : Program} {ops : Array Oper} {W : World} {Q : Act → Prop} : ∀ (l : List Oper) (a : Act), wpQuiet P ops (fun w' => w' = W) Q l a → wpStill P ops W Q l a
  | [], _, h => h
  | o :: rest, a, h => by
    unfold wpQuiet at h
    unfold wpStill
    split at h
    · rename_i hw
      rw [if_pos hw]
      obtain ⟨v, h1, h2⟩ := h
      have h1 := h1 W rfl
      have h2 := wpStill_of_quiet rest _ h2
      unfold Oper.quietAt at h1
      unfold Oper.still
      generalize (execOp a.eval o).run P W = r at *
      cases r with
      | ok n w' =>
        cases n <;> simp only [Oper.quietUpon] at h1 <;> simp only [Oper.stillUpon]
        case value u => obtain ⟨rfl, rfl⟩ := h1; exact ⟨rfl, h2⟩
        case skip => obtain ⟨rfl, rfl⟩ := h1; exact ⟨rfl, h2⟩
        case enter f args => obtain ⟨rfl, hc⟩ := h1; exact ⟨rfl, v, hc, h2⟩
      | halt x w' => simp only [Oper.quietUpon] at h1
    · rename_i hw
      rw [if_neg hw]
      exact wpStill_of_quiet rest _ h
/-- A region that draws its order, whose first n operations only read: one walk of the text's order, then the rest. -/
theorem wp_tail {P : Program} {id : Nat} {Q : Exit → Act → World → Prop} {a : Act} {w : World} {l : List Oper} (n : Nat) (hm : P.follows .mixedOrders = true) (hB : Region.lexTailB .any l.toArray n = true)
    (h : wpQuiet P l.toArray (fun w' => w' = w.drew) (fun a' => wpList P l.toArray Q (l.drop n) a' w.drew) (l.take n) a) : (Code.region id l.toArray true).wp P Q a w :=
  wp_region_still_tail n hm hB (wpStill_of_quiet _ _ h)
end Go.Proofs.Ytgjpbhgobjlneaa
