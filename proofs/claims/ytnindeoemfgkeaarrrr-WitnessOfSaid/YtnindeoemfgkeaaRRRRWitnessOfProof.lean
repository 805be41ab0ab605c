/- witness.Of tells what the witness of any number is, as the document's answer does: for every number; no condition. -/
import Derived.Test.YtnindeoemfgkeaaRRRRWit7
import Derived.Test.YtnindeoemfgkeaaRRRRShell
namespace Go.Proofs.YtnindeoemfgkeaaRRRR
open Go.ChangeShapes Go.WideShapes Go.ChangeAt Go.RowKit Go.Joins
theorem law51 (i : Int) (w : World) : Calls Try.prog 5 #[.int .i64 i] w fun e w' => e = .returned (.bool true) ∧ Grw w w' := by
  by_cases h : 0 ≤ i ∧ i < 6
  · obtain ⟨n, rfl⟩ : ∃ n : Nat, i = n := ⟨i.toNat, by omega⟩
    exact law51_in n (wCases[n]'(by rw [wCases_len]; omega)) w (List.getElem?_eq_getElem _)
  · exact law51_out i w (by omega)
set_option maxRecDepth 100000 in
theorem witnessOf_lifted (os : Os) (started : os.Started) (H : Type) (enc : TypeId × Value → H) :
    ReturnsInHanded {} Try.checked os 5 .any (Rows.witnessOfSpec.pre6 enc Try.prog Try.f5 Rows.witnessOfRow.domain false) (Rows.witnessOfSpec.post enc Try.prog Try.f5 false true false false) := by
  refine returnsInHanded_of_change (C := Try.checked) own started (by kernel_rfl) Try.func5
    (ChangeSpec.witness6 (enc := enc) (C := Try.checked) false ⟨#[], #[.int .i64 0], []⟩ 8 (by kernel_rfl) (by kernel_rfl) (by kernel_rfl) (by kernel_rfl)) ?_
  intro W base args ds gs before hval0 hW _ _
  have hval : ∀ (j : Nat) t v, Try.f5.params[j]? = some t → args[j]? = some v → Value.okWide Try.prog W .any base t v := hval0
  have hW' := hW
  obtain ⟨p, q, hA0, hV, rfl, _, _⟩ := hW
  have hA : DataW.TrodAll enc Try.prog W 0 (fun _ => true) true Try.f5.params.toList args.toList ds p := hA0
  rw [Try.params5] at hA hval
  obtain ⟨v0, d0, rfl, rfl, h0⟩ := trodAll_one hA
  obtain ⟨rfl, rfl⟩ := trodVars_none hV
  obtain ⟨i, rfl, _⟩ := open_int Try.underlying3 (hval 0 3 v0 rfl rfl) h0
  refine (law51 i W).mono fun e W' ⟨he, hg⟩ => ?_
  subst he
  exact ⟨_, rfl, law_end laidOut (by kernel_rfl) hW' rfl (by kernel_rfl) Try.underlying4 rfl hg.below⟩
theorem witnessOf_over : Rows.witnessOfRow.holds Try.pinned (OpenSpec.ofChange Rows.witnessOfSpec) :=
  OpenClaim.holds_of_wide 5 Try.f5 rfl rfl rfl rfl rfl rfl rfl ⟨rfl, rfl, rfl, rfl, rfl⟩ rfl rfl rfl rfl rfl (by kernel_rfl) Try.func5 (by kernel_rfl)
    (of_decide_eq_true (by kernel_rfl)) (by unfold Func.isWrapper; first | (rw [if_pos (by decide +kernel)]; kernel_rfl) | (rw [if_neg (by decide +kernel)]; exact ⟨rfl, rfl⟩))
    (fun os started H enc _ => witnessOf_lifted os started H enc)
/-- The statement. -/
theorem witnessOf_proved : Rows.WitnessOfSaid := witnessOf_over
#print axioms witnessOf_proved
end Go.Proofs.YtnindeoemfgkeaaRRRR
