/- Events that match are made of one another by their match, and by the match turned, and all match themselves: for all events; no condition. -/
import Derived.Test.YtgjpbhgobjlneaaIsoB3
import Derived.Test.YtgjpbhgobjlneaaShellE2
namespace Go.Proofs.Ytgjpbhgobjlneaa
open Go.ChangeShapes Go.WideShapes Go.ChangeAt Go.RowKit Go.Joins
theorem law44Back (a b : List Ev) (A1 A2 : Option Addr) (c1 c2 : Nat) (w : World) (hn : a.length ≤ 9223372036854775807) (hm : b.length ≤ 9223372036854775807) (h1 : SlB Ev.cells 10 w w.heap.size A1 a) (h2 : SlB Ev.cells 10 w w.heap.size A2 b) (hok : ∀ e ∈ a, e.okA) (hok2 : ∀ e ∈ b, e.okA) :
    Calls Try.prog 4 #[.slice A1 a.length c1, .slice A2 b.length c2] w fun e w' => e = .returned (.bool true) ∧ Grw w w' := by
  by_cases h : a.length ≤ 100 ∧ b.length ≤ 100
  · exact law44Back_near a b A1 A2 c1 c2 w h.1 h.2 h1 h2 hok hok2
  · exact law44Back_far a b A1 A2 c1 c2 w (by omega) hn hm
set_option maxRecDepth 100000 in
theorem isoBack_lifted (os : Os) (started : os.Started) (H : Type) (enc : TypeId × Value → H) :
    ReturnsInHanded {} Try.checked os 4 .any (Rows.isoBackSpec.pre6 enc Try.prog Try.f4 Rows.isoBackRow.domain false) (Rows.isoBackSpec.post enc Try.prog Try.f4 false true false false) := by
  refine returnsInHanded_of_change (C := Try.checked) own started (by kernel_rfl) Try.func4
    (ChangeSpec.witness6 (enc := enc) (C := Try.checked) false ⟨#[], #[.slice none 0 0, .slice none 0 0], []⟩ 8 (by kernel_rfl) (by kernel_rfl) (by kernel_rfl) (by kernel_rfl)) ?_
  intro W base args ds gs before hval0 hW _ _
  have hval : ∀ (j : Nat) t v, Try.f4.params[j]? = some t → args[j]? = some v → Value.okWide Try.prog W .any base t v := hval0
  have hW' := hW
  obtain ⟨p, q, hA0, hV, rfl, _, _⟩ := hW
  have hA : DataW.TrodAll enc Try.prog W 0 (fun _ => true) true Try.f4.params.toList args.toList ds p := hA0
  rw [Try.params4] at hA hval
  obtain ⟨v0, v1, d0, d1, p0, p1, rfl, rfl, rfl, h0, h1⟩ := trodAll_two hA
  obtain ⟨rfl, rfl⟩ := trodVars_none hV
  obtain ⟨A1, c1, a, rfl, hn, hs1, ho1⟩ := evs_inA (okWide_slice Try.underlying22 (hval 0 22 v0 rfl rfl)) h0
  obtain ⟨A2, c2, b, rfl, hm, hs2, ho2⟩ := evs_inA (okWide_slice Try.underlying22 (hval 1 22 v1 rfl rfl)) h1
  refine (law44Back a b A1 A2 c1 c2 W (by unfold maxLen at hn; omega) (by unfold maxLen at hm; omega) hs1 hs2 ho1 ho2).mono fun e W' ⟨he, hg⟩ => ?_
  subst he
  exact ⟨_, rfl, law_end laidOut (by kernel_rfl) hW' rfl (by kernel_rfl) Try.underlying4 rfl hg.below⟩
theorem isoBack_over : Rows.isoBackRow.holds Try.pinned (OpenSpec.ofChange Rows.isoBackSpec) :=
  OpenClaim.holds_of_wide 4 Try.f4 rfl rfl rfl rfl rfl rfl rfl ⟨rfl, rfl, rfl, rfl, rfl⟩ rfl rfl rfl rfl rfl (by kernel_rfl) Try.func4 (by kernel_rfl)
    (of_decide_eq_true (by kernel_rfl)) (by unfold Func.isWrapper; first | (rw [if_pos (by decide +kernel)]; kernel_rfl) | (rw [if_neg (by decide +kernel)]; exact ⟨rfl, rfl⟩))
    (fun os started H enc _ => isoBack_lifted os started H enc)
/-- The statement. -/
theorem isoBack_proved : Rows.IsoBackSaid := isoBack_over
#print axioms isoBack_proved
end Go.Proofs.Ytgjpbhgobjlneaa
