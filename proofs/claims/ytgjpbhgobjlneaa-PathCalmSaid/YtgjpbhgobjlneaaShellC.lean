/- Heaps of objects, opened as a law's row hands them over. No condition. -/
import Derived.Test.YtgjpbhgobjlneaaShellG
import Derived.Test.YtgjpbhgobjlneaaPath1
namespace Go.Proofs.Ytgjpbhgobjlneaa
open Go.ChangeShapes Go.WideShapes Go.ChangeAt Go.RowKit Go.Joins Go.Deep
section
variable {H : Type} {enc : TypeId × Value → H} {W : World}
set_option maxRecDepth 100000 in
theorem val_of {n : Nat} {cs : List Value} {y : DataW H × List MemPlace} (h : DataW.trod enc Try.prog W 0 (fun _ => true) true n 32 cs = some y) : ∃ v : Bool × Int, cs = valC v ∧ (Lit.int .i64 v.2).wf = true := by
  obtain ⟨ys, m', _, _, hl', hyl, hf'⟩ := DataW.trod_struct Try.underlying32 h
  have hc : Try.prog.cellsOf 32 = 2 := by kernel_rfl
  have hc1 : Try.prog.cellsOf 3 = 1 := by kernel_rfl
  have hc5 : Try.prog.cellsOf 4 = 1 := by kernel_rfl
  rw [hc] at hl'
  have g0 : DataW.trod enc Try.prog W 0 (fun _ => true) true m' 4 ((List.drop 0 _).take (Try.prog.cellsOf 4)) = ys[0]? := hf' 0 _ rfl
  have g1 : DataW.trod enc Try.prog W 0 (fun _ => true) true m' 3 ((List.drop 1 _).take (Try.prog.cellsOf 3)) = ys[1]? := hf' 1 _ rfl
  have hy2 : ys.length = 2 := hyl
  rw [List.getElem?_eq_getElem (by omega)] at g0 g1
  rw [hc5] at g0
  rw [hc1] at g1
  match cs, hl' with
  | [z0, z1], _ =>
    obtain ⟨r, e4, _⟩ := DataW.trod_bool Try.underlying4 g0
    obtain ⟨v, e5, _, w5⟩ := DataW.trod_int Try.underlying3 g1
    simp at e4 e5
    subst e4 e5
    exact ⟨(r, v), rfl, w5⟩
/-- What an object handed in is. -/
def Cl.ok (W : World) (c : Cl) : Prop := SlB valC 2 W W.heap.size c.fA c.fl ∧ (Lit.int .i64 c.o0).wf = true
set_option maxRecDepth 100000 in
theorem cl_of {n : Nat} {cs : List Value} {y : DataW H × List MemPlace} (h : DataW.trod enc Try.prog W 0 (fun _ => true) true n 53 cs = some y) : ∃ c : Cl, cs = c.cells ∧ c.ok W := by
  obtain ⟨xs, m, _, _, hl, hxl, hf⟩ := DataW.trod_struct Try.underlying53 h
  have hc : Try.prog.cellsOf 53 = 7 := by kernel_rfl
  have hc1 : Try.prog.cellsOf 3 = 1 := by kernel_rfl
  have hc2 : Try.prog.cellsOf 9 = 1 := by kernel_rfl
  have hc3 : Try.prog.cellsOf 51 = 1 := by kernel_rfl
  have hc4 : Try.prog.cellsOf 33 = 4 := by kernel_rfl
  have hc5 : Try.prog.cellsOf 4 = 1 := by kernel_rfl
  rw [hc] at hl
  have f0 : DataW.trod enc Try.prog W 0 (fun _ => true) true m 9 ((cs.drop 0).take (Try.prog.cellsOf 9)) = xs[0]? := hf 0 _ rfl
  have f1 : DataW.trod enc Try.prog W 0 (fun _ => true) true m 33 ((cs.drop 1).take (Try.prog.cellsOf 33)) = xs[1]? := hf 1 _ rfl
  have f2 : DataW.trod enc Try.prog W 0 (fun _ => true) true m 51 ((cs.drop 5).take (Try.prog.cellsOf 51)) = xs[2]? := hf 2 _ rfl
  have f3 : DataW.trod enc Try.prog W 0 (fun _ => true) true m 4 ((cs.drop 6).take (Try.prog.cellsOf 4)) = xs[3]? := hf 3 _ rfl
  have hx4 : xs.length = 4 := hxl
  rw [List.getElem?_eq_getElem (by omega)] at f0 f1 f2 f3
  rw [hc2] at f0
  rw [hc4] at f1
  rw [hc3] at f2
  rw [hc5] at f3
  match cs, hl with
  | [z0, z1, z2, z3, z4, z5, z6], _ =>
    obtain ⟨s, e0, _, _⟩ := DataW.trod_string Try.underlying9 f0
    obtain ⟨o0, o1, o2, o3, e1, w1, _, _, _⟩ := arr4_of Try.underlying33 Try.underlying3 hc4 hc1 f1
    obtain ⟨A, c, l, e2, hm, hs, _⟩ := slice_in (sz := 2) (ce := valC) (ok := fun v => (Lit.int .i64 v.2).wf = true) Try.underlying51 (by kernel_rfl) (by omega) (fun _ => rfl) (fun n cs y h => val_of h) f2
    obtain ⟨r, e3, _⟩ := DataW.trod_bool Try.underlying4 f3
    simp at e0 e1 e2 e3
    obtain ⟨rfl, rfl, rfl, rfl⟩ := e1
    subst e0 e2 e3
    exact ⟨⟨s.data.toList, o0, o1, o2, o3, A, c, l, r⟩, rfl, hs, w1⟩
theorem cls_in {v : Value} {d : DataW H} {p : List MemPlace} (hv : ∃ a len cap, v = .slice a len cap) (h : DataW.Trod enc Try.prog W 0 (fun _ => true) true 38 v d p) :
    ∃ A c, ∃ l : List Cl, v = .slice A l.length c ∧ l.length ≤ maxLen ∧ SlB Cl.cells 7 W W.heap.size A l ∧ ∀ x ∈ l, x.ok W := by
  obtain ⟨a0, len, cap, rfl⟩ := hv
  obtain ⟨fuel, hf⟩ := h
  obtain ⟨A, c, l, hcs, h1, h2, h3⟩ := slice_in (ce := Cl.cells) (ok := Cl.ok W) Try.underlying38 (by kernel_rfl) (by omega) Cl.len (fun n cs y h => cl_of h) hf
  simp [Value.cells] at hcs
  obtain ⟨rfl, rfl, rfl⟩ := hcs
  exact ⟨_, _, l, rfl, h1, h2, h3⟩
end
end Go.Proofs.Ytgjpbhgobjlneaa
