/- path.Wild keeps chapter 45's laws: for all heaps; no condition. -/
import Derived.Test.YtgjpbhgobjlneaaPath23
import Derived.Test.YtgjpbhgobjlneaaShellC
namespace Go.Proofs.Ytgjpbhgobjlneaa
open Go.ChangeShapes Go.WideShapes Go.ChangeAt Go.RowKit Go.Joins
theorem law45Calm (l : List Cl) (A : Option Addr) (c : Nat) (cl : Int) (w : World) (hn : l.length ≤ 9223372036854775807) (h1 : SlB Cl.cells 7 w w.heap.size A l) (h2 : ∀ x ∈ l, x.ok w) :
    Calls Try.prog 8 #[.slice A l.length c, .int .i64 cl] w fun e w' => e = .returned (.bool true) ∧ Grw w w' := by
  cases hg : greatL l
  · obtain ⟨h25, h20⟩ := not_great hg
    exact law45Calm_near l A c w cl ⟨h1, fun x hx => ⟨(h2 x hx).1, by have := h20 x hx; omega⟩⟩ h25 (fun x hx => (h2 x hx).2) hg
  · exact law45Calm_far l A c w cl h1 hn hg
set_option maxRecDepth 100000 in
theorem pathCalm_lifted (os : Os) (started : os.Started) (H : Type) (enc : TypeId × Value → H) :
    ReturnsInHanded {} Try.checked os 8 .any (Rows.pathCalmSpec.pre6 enc Try.prog Try.f8 Rows.pathCalmRow.domain false) (Rows.pathCalmSpec.post enc Try.prog Try.f8 false true false false) := by
  refine returnsInHanded_of_change (C := Try.checked) own started (by kernel_rfl) Try.func8
    (ChangeSpec.witness6 (enc := enc) (C := Try.checked) false ⟨#[], #[.slice none 0 0, .int .i64 0], []⟩ 8 (by kernel_rfl) (by kernel_rfl) (by kernel_rfl) (by kernel_rfl)) ?_
  intro W base args ds gs before hval0 hW _ _
  have hval : ∀ (j : Nat) t v, Try.f8.params[j]? = some t → args[j]? = some v → Value.okWide Try.prog W .any base t v := hval0
  have hW' := hW
  obtain ⟨p, q, hA0, hV, rfl, _, _⟩ := hW
  have hA : DataW.TrodAll enc Try.prog W 0 (fun _ => true) true Try.f8.params.toList args.toList ds p := hA0
  rw [Try.params8] at hA hval
  obtain ⟨v0, v1, d0, d1, p0, p1, rfl, rfl, rfl, h0, h1⟩ := trodAll_two hA
  obtain ⟨rfl, rfl⟩ := trodVars_none hV
  obtain ⟨A1, c1, l, rfl, hn, hs, ho⟩ := cls_in (okWide_slice Try.underlying38 (hval 0 38 v0 rfl rfl)) h0
  obtain ⟨cl, rfl, _, _, _⟩ := open_int Try.underlying3 (hval 1 3 v1 rfl rfl) h1
  refine (law45Calm l A1 c1 cl W (by unfold maxLen at hn; omega) hs ho).mono fun e W' ⟨he, hg⟩ => ?_
  subst he
  exact ⟨_, rfl, law_end laidOut (by kernel_rfl) hW' rfl (by kernel_rfl) Try.underlying4 rfl hg.below⟩
theorem pathCalm_over : Rows.pathCalmRow.holds Try.pinned (OpenSpec.ofChange Rows.pathCalmSpec) :=
  OpenClaim.holds_of_wide 8 Try.f8 rfl rfl rfl rfl rfl rfl rfl ⟨rfl, rfl, rfl, rfl, rfl⟩ rfl rfl rfl rfl rfl (by kernel_rfl) Try.func8 (by kernel_rfl)
    (of_decide_eq_true (by kernel_rfl)) (by unfold Func.isWrapper; first | (rw [if_pos (by decide +kernel)]; kernel_rfl) | (rw [if_neg (by decide +kernel)]; exact ⟨rfl, rfl⟩))
    (fun os started H enc _ => pathCalm_lifted os started H enc)
/-- The statement. -/
theorem pathCalm_proved : Rows.PathCalmSaid := pathCalm_over
#print axioms pathCalm_proved
end Go.Proofs.Ytgjpbhgobjlneaa
