/- Plain helpers, no program in sight: endings, strings as lists of bytes. Conditions: none. -/
import Derived.WalkKit
import Derived.Lib.Hide
import Derived.Deep.QuietTactic
import Derived.BigQuiet
import Derived.Lib.IndexBytes
import Derived.WalkSpells
import Derived.Maps.AppendAt
import Derived.Deep.AppendLies
import Derived.Outline
import Derived.StillTailTactics
set_option linter.unusedVariables false
set_option linter.unusedSimpArgs false
namespace Go.Proofs.YtofmlhpcobjfcaaDoor
open Go.RowKit

theorem ret_bool {a b : Bool} (h : a = b) : Ending.returned (.bool a) = .returned (.bool b) := by rw [h]
theorem ret_int {k : IntKind} {a b : Int} (h : a = b) : Ending.returned (.int k a) = .returned (.int k b) := by rw [h]
/-- A string of these bytes. -/
def bs (l : List UInt8) : ByteArray := ⟨l.toArray⟩
@[simp] theorem bs_data (l : List UInt8) : (bs l).data.toList = l := rfl
theorem size_eq (s : ByteArray) : s.size = s.data.toList.length := rfl
theorem get_list (s : ByteArray) (k : Nat) (h : k < s.size) : s.data.toList[k]? = some s[k] := by
  rw [List.getElem?_eq_getElem (by rw [← size_eq]; exact h)]; rfl
theorem drop_get (s : ByteArray) (k : Nat) (h : k < s.size) : s.data.toList.drop k = s[k] :: s.data.toList.drop (k + 1) := by
  rw [List.drop_eq_getElem_cons (by rw [← size_eq]; exact h)]; rfl
theorem toList_eq_data (s : ByteArray) : s.toList = s.data.toList := ByteArray.toList_eq s
@[go_sem] theorem bs_toList (l : List UInt8) : (bs l).toList = l := by rw [toList_eq_data]; rfl
theorem isEmpty_of_pos (s : ByteArray) (h : 0 < s.size) : s.toList.isEmpty = false := by
  have e := drop_get s 0 h
  rw [List.drop_zero] at e
  rw [toList_eq_data, e]; rfl

/-- The world with new blocks behind what there was, and another count of draws: what a call leaves that writes nothing that was there. -/
def wext (w : World) (h : Array Obj) (d : Nat) : World := { w with heap := w.heap ++ h, drawn := d }
section
variable (w : World) (h : Array Obj) (d : Nat)
theorem wext_heap_lt (n : Nat) (hn : n < w.heap.size) : (wext w h d).heap[n]? = w.heap[n]? := by
  simp [wext, Array.getElem?_append, hn]
@[go_sem] theorem wext_size : (wext w h d).heap.size = h.size + w.heap.size := by simp [wext, Nat.add_comm]
@[go_sem] theorem wext_cell (n i : Nat) (hn : n < w.heap.size) : (wext w h d).cell? ⟨n, i, none⟩ = w.cell? ⟨n, i, none⟩ :=
  World.cell?_of_block (a := ⟨n, i, none⟩) (wext_heap_lt w h d n hn)
theorem wext_wext (h' : Array Obj) (d' : Nat) : wext (wext w h d) h' d' = wext w (h ++ h') d' := by simp [wext]
end
/-- What a call leaves that writes nothing that was there. -/
def Grw (w w' : World) : Prop := ∃ h d, w' = wext w h d
theorem Grw.refl (w : World) : Grw w w := ⟨#[], w.drawn, by simp [wext]⟩
theorem Grw.trans {a b c : World} (h1 : Grw a b) (h2 : Grw b c) : Grw a c := by
  obtain ⟨h, d, rfl⟩ := h1
  obtain ⟨h', d', rfl⟩ := h2
  exact ⟨h ++ h', d', wext_wext _ _ _ _ _⟩
theorem Grw.alloc {a w : World} (g : Grw a w) (o : Obj) : Grw a (w.alloc o) := g.trans ⟨#[o], w.drawn, rfl⟩
theorem Grw.drew {a w : World} (g : Grw a w) : Grw a w.drew := g.trans ⟨#[], w.drawn + 1, by unfold wext; rw [Array.append_empty]; rfl⟩
theorem Grw.drewN {a w : World} (g : Grw a w) (n : Nat) : Grw a (w.drewN n) := g.trans ⟨#[], w.drawn + n, by unfold wext; rw [Array.append_empty]; rfl⟩
theorem Grw.of_below {w w' : World} (hb : Below w.heap.size w w') : Grw w w' := by
  refine ⟨w'.heap.extract w.heap.size w'.heap.size, w'.drawn, ?_⟩
  obtain ⟨ho, ht, hp, hs, hk⟩ := hb
  cases w; cases w'
  simp only [wext] at *
  subst ho; subst ht; subst hp
  congr 1
  apply Array.ext_getElem?
  intro k
  rename_i h1 _ _ _ _ h2 _
  rw [Array.getElem?_append]
  split
  · rename_i hlt; exact hk k hlt
  · rename_i hge
    rw [Array.getElem?_extract]
    split
    · congr 1; omega
    · rw [Array.getElem?_eq_none (by omega)]
theorem Grw.below {w w' : World} (g : Grw w w') : Below w.heap.size w w' := by
  obtain ⟨h, d, rfl⟩ := g
  exact ⟨rfl, rfl, rfl, by rw [wext_size]; omega, fun k hk => wext_heap_lt w h d k hk⟩
section
variable {w : World} {base : Nat} {e : TypeId} {size n : Nat} {v : Value} {xs : List Value}
end
theorem block_alloc (w : World) (o : Obj) (n : Nat) (hn : n = w.heap.size) : (w.alloc o).heap[n]? = some o := by
  subst hn; exact heap_alloc_new w o
section
variable {α : Type} {enc : α → List Value} {sz : Nat} {w w' : World} {A : Option Addr} {xs : List α}
end
end Go.Proofs.YtofmlhpcobjfcaaDoor
namespace Go.Proofs.YtofmlhpcobjfcaaDoor
open Go.RowKit

section
variable (w : World) (g : Nat) (t : TypeId) (cs : Array Value)
end
section
variable {α : Type} {enc : α → List Value} {sz B : Nat} {w w' : World} {A : Option Addr} {xs : List α}
end

end Go.Proofs.YtofmlhpcobjfcaaDoor
