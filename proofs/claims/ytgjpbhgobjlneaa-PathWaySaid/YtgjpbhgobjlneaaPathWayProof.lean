/- path.Way and path.Wild keep chapter 45's laws: for all heaps; no condition. -/
import Derived.Test.YtgjpbhgobjlneaaPath21
import Derived.Test.YtgjpbhgobjlneaaShellC
namespace Go.Proofs.Ytgjpbhgobjlneaa
open Go.ChangeShapes Go.WideShapes Go.ChangeAt Go.RowKit Go.Joins
theorem law45Way (l : List Cl) (A : Option Addr) (c : Nat) (tx ar : Int) (w : World) (hn : l.length ≤ 9223372036854775807) (h1 : SlB Cl.cells 7 w w.heap.size A l) (h2 : ∀ x ∈ l, x.ok w) (htx : (Lit.int .i64 tx).wf = true) :
    Calls Try.prog 6 #[.slice A l.length c, .int .i64 tx, .int .i64 ar] w fun e w' => e = .returned (.bool true) ∧ Grw w w' := by
  cases hg : greatL l
  · obtain ⟨h25, h20⟩ := not_great hg
    exact law45Way_near l A c w tx ar ⟨h1, fun x hx => ⟨(h2 x hx).1, by have := h20 x hx; omega⟩⟩ h25 (fun x hx => (h2 x hx).2) htx hg
  · exact law45Way_far l A c w tx ar h1 hn hg
set_option maxRecDepth 100000 in
theorem pathWay_lifted (os : Os) (started : os.Started) (H : Type) (enc : TypeId × Value → H) :
    ReturnsInHanded {} Try.checked os 6 .any (Rows.pathWaySpec.pre6 enc Try.prog Try.f6 Rows.pathWayRow.domain false) (Rows.pathWaySpec.post enc Try.prog Try.f6 false true false false) := by
  refine returnsInHanded_of_change (C := Try.checked) own started (by kernel_rfl) Try.func6
    (ChangeSpec.witness6 (enc := enc) (C := Try.checked) false ⟨#[], #[.slice none 0 0, .int .i64 0, .int .i64 0], []⟩ 8 (by kernel_rfl) (by kernel_rfl) (by kernel_rfl) (by kernel_rfl)) ?_
  intro W base args ds gs before hval0 hW _ _
  have hval : ∀ (j : Nat) t v, Try.f6.params[j]? = some t → args[j]? = some v → Value.okWide Try.prog W .any base t v := hval0
  have hW' := hW
  obtain ⟨p, q, hA0, hV, rfl, _, _⟩ := hW
  have hA : DataW.TrodAll enc Try.prog W 0 (fun _ => true) true Try.f6.params.toList args.toList ds p := hA0
  rw [Try.params6] at hA hval
  obtain ⟨v0, v1, v2, d0, d1, d2, p0, p1, p2, rfl, rfl, rfl, h0, h1, h2⟩ := trodAll_three hA
  obtain ⟨rfl, rfl⟩ := trodVars_none hV
  obtain ⟨A1, c1, l, rfl, hn, hs, ho⟩ := cls_in (okWide_slice Try.underlying38 (hval 0 38 v0 rfl rfl)) h0
  obtain ⟨tx, rfl, _, _, htx⟩ := open_int Try.underlying3 (hval 1 3 v1 rfl rfl) h1
  obtain ⟨ar, rfl, _, _, _⟩ := open_int Try.underlying3 (hval 2 3 v2 rfl rfl) h2
  refine (law45Way l A1 c1 tx ar W (by unfold maxLen at hn; omega) hs ho htx).mono fun e W' ⟨he, hg⟩ => ?_
  subst he
  exact ⟨_, rfl, law_end laidOut (by kernel_rfl) hW' rfl (by kernel_rfl) Try.underlying4 rfl hg.below⟩
theorem pathWay_over : Rows.pathWayRow.holds Try.pinned (OpenSpec.ofChange Rows.pathWaySpec) :=
  OpenClaim.holds_of_wide 6 Try.f6 rfl rfl rfl rfl rfl rfl rfl ⟨rfl, rfl, rfl, rfl, rfl⟩ rfl rfl rfl rfl rfl (by kernel_rfl) Try.func6 (by kernel_rfl)
    (of_decide_eq_true (by kernel_rfl)) (by unfold Func.isWrapper; first | (rw [if_pos (by decide +kernel)]; kernel_rfl) | (rw [if_neg (by decide +kernel)]; exact ⟨rfl, rfl⟩))
    (fun os started H enc _ => pathWay_lifted os started H enc)
/-- The statement. -/
theorem pathWay_proved : Rows.PathWaySaid := pathWay_over
#print axioms pathWay_proved
end Go.Proofs.Ytgjpbhgobjlneaa
