/- path.Way, path.Reach and path.Wild keep chapter 45's laws: for all heaps; no condition. -/
import Derived.Test.YtgjpbhgobjlneaaPath13
import Derived.Test.YtgjpbhgobjlneaaShellC
namespace Go.Proofs.Ytgjpbhgobjlneaa
open Go.ChangeShapes Go.WideShapes Go.ChangeAt Go.RowKit Go.Joins
theorem law45True (l : List Cl) (A : Option Addr) (c : Nat) (tx ar : Int) (w : World) (hn : l.length ≤ 9223372036854775807) (h1 : SlB Cl.cells 7 w w.heap.size A l) (h2 : ∀ x ∈ l, x.ok w) (htx : (Lit.int .i64 tx).wf = true) :
    Calls Try.prog 7 #[.slice A l.length c, .int .i64 tx, .int .i64 ar] w fun e w' => e = .returned (.bool true) ∧ Grw w w' := by
  cases hg : greatL l
  · obtain ⟨h25, h20⟩ := not_great hg
    exact law45True_near l A c w tx ar ⟨h1, fun x hx => ⟨(h2 x hx).1, by have := h20 x hx; omega⟩⟩ h25 (fun x hx => (h2 x hx).2) htx hg
  · exact law45True_far l A c w tx ar h1 hn hg
set_option maxRecDepth 100000 in
theorem pathTrue_lifted (os : Os) (started : os.Started) (H : Type) (enc : TypeId × Value → H) :
    ReturnsInHanded {} Try.checked os 7 .any (Rows.pathTrueSpec.pre6 enc Try.prog Try.f7 Rows.pathTrueRow.domain false) (Rows.pathTrueSpec.post enc Try.prog Try.f7 false true false false) := by
  refine returnsInHanded_of_change (C := Try.checked) own started (by kernel_rfl) Try.func7
    (ChangeSpec.witness6 (enc := enc) (C := Try.checked) false ⟨#[], #[.slice none 0 0, .int .i64 0, .int .i64 0], []⟩ 8 (by kernel_rfl) (by kernel_rfl) (by kernel_rfl) (by kernel_rfl)) ?_
  intro W base args ds gs before hval0 hW _ _
  have hval : ∀ (j : Nat) t v, Try.f7.params[j]? = some t → args[j]? = some v → Value.okWide Try.prog W .any base t v := hval0
  have hW' := hW
  obtain ⟨p, q, hA0, hV, rfl, _, _⟩ := hW
  have hA : DataW.TrodAll enc Try.prog W 0 (fun _ => true) true Try.f7.params.toList args.toList ds p := hA0
  rw [Try.params7] at hA hval
  obtain ⟨v0, v1, v2, d0, d1, d2, p0, p1, p2, rfl, rfl, rfl, h0, h1, h2⟩ := trodAll_three hA
  obtain ⟨rfl, rfl⟩ := trodVars_none hV
  obtain ⟨A1, c1, l, rfl, hn, hs, ho⟩ := cls_in (okWide_slice Try.underlying38 (hval 0 38 v0 rfl rfl)) h0
  obtain ⟨tx, rfl, _, _, htx⟩ := open_int Try.underlying3 (hval 1 3 v1 rfl rfl) h1
  obtain ⟨ar, rfl, _, _, _⟩ := open_int Try.underlying3 (hval 2 3 v2 rfl rfl) h2
  refine (law45True l A1 c1 tx ar W (by unfold maxLen at hn; omega) hs ho htx).mono fun e W' ⟨he, hg⟩ => ?_
  subst he
  exact ⟨_, rfl, law_end laidOut (by kernel_rfl) hW' rfl (by kernel_rfl) Try.underlying4 rfl hg.below⟩
theorem pathTrue_over : Rows.pathTrueRow.holds Try.pinned (OpenSpec.ofChange Rows.pathTrueSpec) :=
  OpenClaim.holds_of_wide 7 Try.f7 rfl rfl rfl rfl rfl rfl rfl ⟨rfl, rfl, rfl, rfl, rfl⟩ rfl rfl rfl rfl rfl (by kernel_rfl) Try.func7 (by kernel_rfl)
    (of_decide_eq_true (by kernel_rfl)) (by unfold Func.isWrapper; first | (rw [if_pos (by decide +kernel)]; kernel_rfl) | (rw [if_neg (by decide +kernel)]; exact ⟨rfl, rfl⟩))
    (fun os started H enc _ => pathTrue_lifted os started H enc)
/-- The statement. -/
theorem pathTrue_proved : Rows.PathTrueSaid := pathTrue_over
#print axioms pathTrue_proved
end Go.Proofs.Ytgjpbhgobjlneaa
