/- Layer 7's answer: a value of 28 cells, stored and read as a whole. -/
import Derived.Test.YtnindeoemfgkeaaRRRRRef07b
import Derived.Laws.Tables
import Derived.Laws.Rows
namespace Go.Proofs.YtnindeoemfgkeaaRRRR
open Go.RowKit
/-- What layer 7 answers: owners, a type, the place behind, an error and its place. -/
def got7 (L : Value) (T : Ty) (nx e a : Int) : Array Value := #[L, .int .i64 T.kind, .string (bs T.cls), .int .i64 T.n, .int .i64 T.o0.1, .int .i64 T.o0.2, .int .i64 T.o1.1, .int .i64 T.o1.2, .int .i64 T.o2.1, .int .i64 T.o2.2, .int .i64 T.o3.1, .int .i64 T.o3.2,
  .string ⟨#[]⟩, .int .i64 0, .string ⟨#[]⟩, .int .i64 0, .int .i64 0, .int .i64 0, .int .i64 0, .int .i64 0, .int .i64 0, .int .i64 0, .int .i64 0, .int .i64 0, .int .i64 0, .int .i64 nx, .int .i64 e, .int .i64 a]
/-- A block of such a value. -/
def has7 (w : World) (g : Nat) : Bool := match w.heap[g]? with | some (.cells z t (0, 0)) => z.size == 28 && t == 67 | _ => false
def row7 (w : World) (g : Nat) : Array Value := match w.heap[g]? with | some (.cells z _ _) => z | _ => #[]
theorem has7_spec {w : World} {g : Nat} (h : has7 w g = true) : w.heap[g]? = some (.cells (row7 w g) 67 (0, 0)) ∧ (row7 w g).size = 28 := by
  unfold has7 at h
  unfold row7
  split at h
  · rename_i z t hq
    simp at h
    rw [hq, h.2]
    exact ⟨rfl, h.1⟩
  · exact absurd h (by simp)
section
variable (w : World) (g : Nat)
@[go_sem] theorem has7_wext (h : Array Obj) (d : Nat) (hg : g < w.heap.size) : has7 (wext w h d) g = has7 w g := by
  unfold has7; rw [show (wext w h d).heap[g]? = w.heap[g]? from Array.getElem?_append_left hg]
@[go_sem] theorem has7_past (o : Obj) (hg : g < w.heap.size) : has7 (w.alloc o) g = has7 w g := by
  unfold has7; rw [show (w.alloc o).heap[g]? = w.heap[g]? from by show (w.heap.push o)[g]? = _; rw [Array.getElem?_push, if_neg (Nat.ne_of_lt hg)]]
@[go_sem] theorem has7_at (z : Array Value) (hg : g = w.heap.size) (hz : z.size = 28) : has7 (w.alloc (.cells z 67)) g = true := by
  subst hg; unfold has7; rw [show (w.alloc (.cells z 67)).heap[w.heap.size]? = some (.cells z 67) from heap_alloc_new w _]; simp [hz]
@[go_sem] theorem row7_wext (h : Array Obj) (d : Nat) (hg : g < w.heap.size) : row7 (wext w h d) g = row7 w g := by
  unfold row7; rw [show (wext w h d).heap[g]? = w.heap[g]? from Array.getElem?_append_left hg]
@[go_sem] theorem row7_past (o : Obj) (hg : g < w.heap.size) : row7 (w.alloc o) g = row7 w g := by
  unfold row7; rw [show (w.alloc o).heap[g]? = w.heap[g]? from by show (w.heap.push o)[g]? = _; rw [Array.getElem?_push, if_neg (Nat.ne_of_lt hg)]]
@[go_sem] theorem row7_at (z : Array Value) (t : TypeId) (hg : g = w.heap.size) : row7 (w.alloc (.cells z t)) g = z := by
  subst hg; unfold row7; rw [show (w.alloc (.cells z t)).heap[w.heap.size]? = some (.cells z t) from heap_alloc_new w _]
end
@[go_sem] theorem got7_size (L : Value) (T : Ty) (nx e a : Int) : (got7 L T nx e a).size = 28 := rfl
@[go_sem] theorem has7_got (w : World) (g : Nat) (L : Value) (T : Ty) (nx e a : Int) (hg : g = w.heap.size) : has7 (w.alloc (.cells (got7 L T nx e a) 67)) g = true := has7_at w g _ hg rfl
theorem size7 : (Try.prog.info? 67).map (·.size) = some 28 := by kernel_rfl
theorem under7 : (Try.prog.underlying 67).map (fun d => match d with | .struct _ | .array _ _ => true | _ => false) = some true := by kernel_rfl
/-- The operations, closed to simp: folded ahead of simp's own unfolding, whatever their operands look like by then. -/
def st7 (p : Addr) (v : Value) : Sem Unit := storeVar 67 p v
def ld7 (p : Addr) : Sem Value := loadVar 67 p
def bu7 (parts : Array (Nat × Value)) : Sem Value := Instr.build 67 parts
@[go_sem ↓] theorem st7_fold (p : Addr) (v : Value) : storeVar 67 p v = st7 p v := rfl
@[go_sem ↓] theorem ld7_fold (p : Addr) : loadVar 67 p = ld7 p := rfl
@[go_sem ↓] theorem bu7_fold (parts : Array (Nat × Value)) : Instr.build 67 parts = bu7 parts := rfl
@[go_sem] theorem st7_run (w : World) (g : Nat) (A : Option Addr) (m c : Nat) (T : Ty) (nx e a : Int) (h : has7 w g = true) : (st7 ⟨g, 0, none⟩ (.agg (got7 (.slice A m c) T nx e a))).run Try.prog w = .ok () (sb w g 67 (got7 (.slice A m c) T nx e a)) := by
  obtain ⟨h1, h2⟩ := has7_spec h
  unfold st7
  rw [run_storeVar_row w g 67 67 _ (got7 (.slice A m c) T nx e a) h1 size7 h2 (by simp [got7, Value.oneCell']), setRow_sb w g 67 _ _ h1]
@[go_sem] theorem ld7_run (w : World) (g : Nat) (h : has7 w g = true) : (ld7 ⟨g, 0, none⟩).run Try.prog w = .ok (.agg (row7 w g)) w := by
  obtain ⟨h1, h2⟩ := has7_spec h
  unfold ld7
  cases hu : Try.prog.underlying 67 with
  | none => have := under7; rw [hu] at this; exact absurd this (by simp)
  | some d => have := under7; rw [hu] at this; exact run_loadVar_row w g 67 67 _ (0, 0) d h1 hu (by clear h1 h2; revert hu this; cases d <;> intro hu this <;> first | rfl | exact absurd this (by simp)) (by rw [size7, h2])
theorem results7 {fn : Func} {p : Tmp} (h : fn.results = #[.cell p 67]) (tmps : Array Value) (w : World) (g : Nat) (hp : tmps.getD p undef = .pointer (some ⟨g, 0, none⟩)) (hb : has7 w g = true) :
    (results fn tmps).run Try.prog w = .ok (.agg (row7 w g)) w := by
  obtain ⟨h1, h2⟩ := has7_spec hb
  cases hu : Try.prog.underlying 67 with
  | none => have := under7; rw [hu] at this; exact absurd this (by simp)
  | some d => have := under7; rw [hu] at this; exact results_cell_row h tmps w g 67 _ (0, 0) d hp h1 hu (by clear h1 h2 hp hb; revert hu this; cases d <;> intro hu this <;> first | rfl | exact absurd this (by simp)) (by rw [size7, h2])
@[go_sem] theorem buF_run (x p : Int) (w : World) : (bu7 #[(4, .agg #[.int .i64 x, .int .i64 p])]).run Try.prog w = .ok (.agg (got7 (.slice none 0 0) Ty.zero 0 x p)) w := run_build w _ _ _ (by kernel_rfl)
@[go_sem] theorem buN_run (n : Int) (w : World) : (bu7 #[(3, .int .i64 n)]).run Try.prog w = .ok (.agg (got7 (.slice none 0 0) Ty.zero n 0 0)) w := run_build w _ _ _ (by kernel_rfl)
@[go_sem] theorem buL_run (A : Option Addr) (m c : Nat) (n : Int) (w : World) : (bu7 #[(0, .slice A m c), (3, .int .i64 n)]).run Try.prog w = .ok (.agg (got7 (.slice A m c) Ty.zero n 0 0)) w := run_build w _ _ _ (by kernel_rfl)
@[go_sem] theorem buT_run (k m o1 o2 o3 o4 o5 o6 o7 o8 : Int) (s : List UInt8) (n : Int) (w : World) : (bu7 #[(1, .agg #[.int .i64 k, .string (bs s), .int .i64 m, .int .i64 o1, .int .i64 o2, .int .i64 o3, .int .i64 o4, .int .i64 o5, .int .i64 o6, .int .i64 o7, .int .i64 o8]), (3, .int .i64 n)]).run Try.prog w = .ok (.agg (got7 (.slice none 0 0) ⟨k, s, m, (o1, o2), (o3, o4), (o5, o6), (o7, o8)⟩ n 0 0)) w := run_build w _ _ _ (by kernel_rfl)
end Go.Proofs.YtnindeoemfgkeaaRRRR
