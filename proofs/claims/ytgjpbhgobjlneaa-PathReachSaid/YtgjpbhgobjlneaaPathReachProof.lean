/- path.Names, path.Roots and path.Reach keep chapter 45's laws: for all heaps; no condition. -/
import Derived.Test.YtgjpbhgobjlneaaPath16
import Derived.Test.YtgjpbhgobjlneaaShellC
namespace Go.Proofs.Ytgjpbhgobjlneaa
open Go.ChangeShapes Go.WideShapes Go.ChangeAt Go.RowKit Go.Joins Go.Deep
theorem law45Reach (l : List Cl) (A : Option Addr) (c : Nat) (xs : List Int) (XA : Option Addr) (xc : Nat) (tx ar : Int) (w : World) (hn : l.length ≤ 9223372036854775807) (h1 : SlB Cl.cells 7 w w.heap.size A l) (h2 : ∀ x ∈ l, x.ok w) (hX : SlB intC 1 w w.heap.size XA xs) (hxw : ∀ a ∈ xs, (Lit.int .i64 a).wf = true) :
    Calls Try.prog 5 #[.slice A l.length c, .agg #[.slice XA xs.length xc, .int .i64 tx, .int .i64 ar]] w fun e w' => e = .returned (.bool true) ∧ Grw w w' := by
  by_cases hx : xs.length ≤ 20
  · cases hg : greatL l
    · obtain ⟨h25, h20⟩ := not_great hg
      exact law45Reach_near l A c w xs XA xc tx ar ⟨h1, fun x hx => ⟨(h2 x hx).1, by have := h20 x hx; omega⟩⟩ h25 hX hx hxw hg
    · exact law45Reach_far l A c w xs XA xc tx ar h1 hn (.inl hg)
  · exact law45Reach_far l A c w xs XA xc tx ar h1 hn (.inr (by omega))
theorem cellsRound : Try.prog.cellsOf 41 = 3 := by kernel_rfl
theorem cellsInt1 : Try.prog.cellsOf 3 = 1 := by kernel_rfl
section
variable {H : Type} {enc : TypeId × Value → H} {W : World}
theorem int_of {n : Nat} {cs : List Value} {y : DataW H × List MemPlace} (h : DataW.trod enc Try.prog W 0 (fun _ => true) true n 3 cs = some y) : ∃ v : Int, cs = intC v ∧ (Lit.int .i64 v).wf = true := by
  obtain ⟨v, e, _, w⟩ := DataW.trod_int Try.underlying3 h
  exact ⟨v, e, w⟩
end
set_option maxRecDepth 100000 in
theorem pathReach_lifted (os : Os) (started : os.Started) (H : Type) (enc : TypeId × Value → H) :
    ReturnsInHanded {} Try.checked os 5 .any (Rows.pathReachSpec.pre6 enc Try.prog Try.f5 Rows.pathReachRow.domain false) (Rows.pathReachSpec.post enc Try.prog Try.f5 false true false false) := by
  refine returnsInHanded_of_change (C := Try.checked) own started (by kernel_rfl) Try.func5
    (ChangeSpec.witness6 (enc := enc) (C := Try.checked) false ⟨#[], #[.slice none 0 0, .agg #[.slice none 0 0, .int .i64 0, .int .i64 0]], []⟩ 8 (by kernel_rfl) (by kernel_rfl) (by kernel_rfl) (by kernel_rfl)) ?_
  intro W base args ds gs before hval0 hW _ _
  have hval : ∀ (j : Nat) t v, Try.f5.params[j]? = some t → args[j]? = some v → Value.okWide Try.prog W .any base t v := hval0
  have hW' := hW
  obtain ⟨p, q, hA0, hV, rfl, _, _⟩ := hW
  have hA : DataW.TrodAll enc Try.prog W 0 (fun _ => true) true Try.f5.params.toList args.toList ds p := hA0
  rw [Try.params5] at hA hval
  obtain ⟨v0, v1, d0, d1, p0, p1, rfl, rfl, rfl, h0, h1⟩ := trodAll_two hA
  obtain ⟨rfl, rfl⟩ := trodVars_none hV
  obtain ⟨A1, c1, l, rfl, hn, hs, ho⟩ := cls_in (okWide_slice Try.underlying38 (hval 0 38 v0 rfl rfl)) h0
  obtain ⟨c0, c1', c2, y0, y1, y2, m, rfl, rfl, rfl, hy0, hy1, hy2⟩ := open_agg3 Try.underlying41 (by kernel_rfl) cellsRound (hval 1 41 v1 rfl rfl) h1
  obtain ⟨XA, xc, xs, e0, hxn, hxs, hxw⟩ := slice_in (sz := 1) (ce := intC) (ok := fun v => (Lit.int .i64 v).wf = true) Try.underlying39 cellsInt1 (by omega) (fun _ => rfl) (fun n cs y h => int_of h) hy0
  obtain ⟨tx, e1, _, htx⟩ := DataW.trod_int Try.underlying3 hy1
  obtain ⟨ar, e2, _, _⟩ := DataW.trod_int Try.underlying3 hy2
  simp at e0 e1 e2
  subst e0 e1 e2
  refine (law45Reach l A1 c1 xs XA xc tx ar W (by unfold maxLen at hn; omega) hs ho hxs hxw).mono fun e W' ⟨he, hg⟩ => ?_
  subst he
  exact ⟨_, rfl, law_end laidOut (by kernel_rfl) hW' rfl (by kernel_rfl) Try.underlying4 rfl hg.below⟩
theorem pathReach_over : Rows.pathReachRow.holds Try.pinned (OpenSpec.ofChange Rows.pathReachSpec) :=
  OpenClaim.holds_of_wide 5 Try.f5 rfl rfl rfl rfl rfl rfl rfl ⟨rfl, rfl, rfl, rfl, rfl⟩ rfl rfl rfl rfl rfl (by kernel_rfl) Try.func5 (by kernel_rfl)
    (of_decide_eq_true (by kernel_rfl)) (by unfold Func.isWrapper; first | (rw [if_pos (by decide +kernel)]; kernel_rfl) | (rw [if_neg (by decide +kernel)]; exact ⟨rfl, rfl⟩))
    (fun os started H enc _ => pathReach_lifted os started H enc)
/-- The statement. -/
theorem pathReach_proved : Rows.PathReachSaid := pathReach_over
#print axioms pathReach_proved
end Go.Proofs.Ytgjpbhgobjlneaa
