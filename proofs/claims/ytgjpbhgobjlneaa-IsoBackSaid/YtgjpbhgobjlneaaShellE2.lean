/- Slices of events, opened as a law's row hands them over: all their numbers are ints. No condition. -/
import Derived.Test.YtgjpbhgobjlneaaShellG
import Derived.Test.YtgjpbhgobjlneaaIsoB1
namespace Go.Proofs.Ytgjpbhgobjlneaa
open Go.ChangeShapes Go.WideShapes Go.ChangeAt Go.RowKit Go.Joins Go.Deep
section
variable {H : Type} {enc : TypeId × Value → H} {W : World}
set_option maxRecDepth 100000 in
theorem ev_ofA {n : Nat} {cs : List Value} {y : DataW H × List MemPlace} (h : DataW.trod enc Try.prog W 0 (fun _ => true) true n 35 cs = some y) : ∃ e : Ev, cs = e.cells ∧ e.okA := by
  obtain ⟨xs, m, _, _, hl, hxl, hf⟩ := DataW.trod_struct Try.underlying35 h
  have hc : Try.prog.cellsOf 35 = 10 := by kernel_rfl
  have hc1 : Try.prog.cellsOf 3 = 1 := by kernel_rfl
  have hc2 : Try.prog.cellsOf 9 = 1 := by kernel_rfl
  have hc3 : Try.prog.cellsOf 32 = 2 := by kernel_rfl
  have hc4 : Try.prog.cellsOf 33 = 4 := by kernel_rfl
  have hc5 : Try.prog.cellsOf 4 = 1 := by kernel_rfl
  rw [hc] at hl
  have f0 : DataW.trod enc Try.prog W 0 (fun _ => true) true m 3 ((cs.drop 0).take (Try.prog.cellsOf 3)) = xs[0]? := hf 0 _ rfl
  have f1 : DataW.trod enc Try.prog W 0 (fun _ => true) true m 3 ((cs.drop 1).take (Try.prog.cellsOf 3)) = xs[1]? := hf 1 _ rfl
  have f2 : DataW.trod enc Try.prog W 0 (fun _ => true) true m 3 ((cs.drop 2).take (Try.prog.cellsOf 3)) = xs[2]? := hf 2 _ rfl
  have f3 : DataW.trod enc Try.prog W 0 (fun _ => true) true m 9 ((cs.drop 3).take (Try.prog.cellsOf 9)) = xs[3]? := hf 3 _ rfl
  have f4 : DataW.trod enc Try.prog W 0 (fun _ => true) true m 32 ((cs.drop 4).take (Try.prog.cellsOf 32)) = xs[4]? := hf 4 _ rfl
  have f5 : DataW.trod enc Try.prog W 0 (fun _ => true) true m 33 ((cs.drop 6).take (Try.prog.cellsOf 33)) = xs[5]? := hf 5 _ rfl
  have hx6 : xs.length = 6 := hxl
  rw [List.getElem?_eq_getElem (by omega)] at f0 f1 f2 f3 f4 f5
  rw [hc1] at f0 f1 f2
  rw [hc2] at f3
  rw [hc3] at f4
  rw [hc4] at f5
  match cs, hl with
  | [z0, z1, z2, z3, z4, z5, z6, z7, z8, z9], _ =>
    obtain ⟨k, e0, _, w0⟩ := DataW.trod_int Try.underlying3 f0
    obtain ⟨who, e1, _, w1⟩ := DataW.trod_int Try.underlying3 f1
    obtain ⟨obj, e2, _, w2⟩ := DataW.trod_int Try.underlying3 f2
    obtain ⟨s, e3, _, _⟩ := DataW.trod_string Try.underlying9 f3
    obtain ⟨ys, m', _, _, hl', hyl, hf'⟩ := DataW.trod_struct Try.underlying32 f4
    have g0 : DataW.trod enc Try.prog W 0 (fun _ => true) true m' 4 ((List.drop 0 _).take (Try.prog.cellsOf 4)) = ys[0]? := hf' 0 _ rfl
    have g1 : DataW.trod enc Try.prog W 0 (fun _ => true) true m' 3 ((List.drop 1 _).take (Try.prog.cellsOf 3)) = ys[1]? := hf' 1 _ rfl
    have hy2 : ys.length = 2 := hyl
    rw [List.getElem?_eq_getElem (by omega)] at g0 g1
    rw [hc5] at g0
    rw [hc1] at g1
    obtain ⟨r, e4, _⟩ := DataW.trod_bool Try.underlying4 g0
    obtain ⟨v, e5, _, w5⟩ := DataW.trod_int Try.underlying3 g1
    obtain ⟨o0, o1, o2, o3, e6, w6, w7, w8, w9⟩ := arr4_of Try.underlying33 Try.underlying3 hc4 hc1 f5
    simp at e0 e1 e2 e3 e4 e5 e6
    obtain ⟨rfl, rfl, rfl, rfl⟩ := e6
    subst e0 e1 e2 e3 e4 e5
    refine ⟨⟨k, who, obj, s.data.toList, r, v, o0, o1, o2, o3⟩, rfl, ?_⟩
    intro o
    obtain ⟨o, ho⟩ := o
    rcases ho with rfl | rfl | rfl | rfl | rfl | rfl | rfl <;> assumption
theorem evs_inA {v : Value} {d : DataW H} {p : List MemPlace} (hv : ∃ a len cap, v = .slice a len cap) (h : DataW.Trod enc Try.prog W 0 (fun _ => true) true 22 v d p) :
    ∃ A c, ∃ l : List Ev, v = .slice A l.length c ∧ l.length ≤ maxLen ∧ SlB Ev.cells 10 W W.heap.size A l ∧ ∀ x ∈ l, x.okA := by
  obtain ⟨a0, len, cap, rfl⟩ := hv
  obtain ⟨fuel, hf⟩ := h
  obtain ⟨A, c, l, hcs, h1, h2, h3⟩ := slice_in (ce := Ev.cells) (ok := Ev.okA) Try.underlying22 (by kernel_rfl) (by omega) Ev.len (fun n cs y h => ev_ofA h) hf
  simp [Value.cells] at hcs
  obtain ⟨rfl, rfl, rfl⟩ := hcs
  exact ⟨_, _, l, rfl, h1, h2, h3⟩
end
end Go.Proofs.Ytgjpbhgobjlneaa
