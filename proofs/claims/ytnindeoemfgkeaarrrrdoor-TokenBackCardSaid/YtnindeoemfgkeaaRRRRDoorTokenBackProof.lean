/- The tokens of the text of any text's tokens are the same, and each token stands where it says, one behind the other: for every text; the program's list of words is tied to the program's text. -/
import Derived.Test.YtnindeoemfgkeaaRRRRDoorLaw03c
import Derived.Test.YtnindeoemfgkeaaRRRRDoorShellD
namespace Go.Proofs.YtnindeoemfgkeaaRRRRDoor
open Go.ChangeShapes Go.WideShapes Go.ChangeAt Go.RowKit
theorem law03Back (s : ByteArray) (w : World) (hw : Wd w) (hs : s.size ≤ 9223372036854775807) : Calls Tryd.prog 4 #[.string s] w fun e w' => e = .returned (.bool true) ∧ Grw w w' := by
  by_cases h : s.size ≤ 400
  · rcases tokOf_seg s.data.toList (by rw [← size_eq]; omega) with ⟨l, h1, h2⟩ | ⟨e, p, h1, h2, h3⟩
    · exact law03Back_ok s w l hw h h1 h2
    · exact law03Back_bad s w e p hw h h1 h2 (by rw [size_eq]; exact h3)
  · exact law03Back_far s w hw (by omega) hs
theorem tokenBack_contract (H : Type) (enc : TypeId × Value → H) (W : World) (base : Nat) (args : Array Value) (ds gs : List (DataW H)) (before : List MemPlace)
    (hval0 : ∀ (j : Nat) t v, Tryd.f4.params[j]? = some t → args[j]? = some v → Value.okWide Tryd.prog W .any base t v)
    (hW : DataW.Whole enc Tryd.prog Tryd.f4.params.toList Rows.tokenBackSpec.vars false W args.toList ds gs before) (hL : laidMetH Tryd.prog Rows.tokenBackRow.laid W) :
    Calls Tryd.prog 4 args W fun e W' => ∃ v, e = .returned v ∧ Rows.tokenBackSpec.post enc Tryd.prog Tryd.f4 false true false false W args v W' := by
  have hw := words_of hL
  have hval := hval0
  have hW' := hW
  obtain ⟨p, q, hA0, hV, rfl, _, _⟩ := hW
  have hA : DataW.TrodAll enc Tryd.prog W 0 (fun _ => true) true Tryd.f4.params.toList args.toList ds p := hA0
  rw [Tryd.params4] at hA hval
  obtain ⟨v0, d0, rfl, rfl, h0⟩ := trodAll_one hA
  obtain ⟨rfl, rfl⟩ := trodVars_none hV
  obtain ⟨s, rfl, rfl, rfl, hs⟩ := Go.ChangeMaps.open_string Tryd.underlying9 (hval 0 9 v0 rfl rfl) h0
  refine (law03Back s W hw (by unfold maxLen at hs; omega)).mono fun e W' ⟨he, hg⟩ => ?_
  subst he
  exact ⟨_, rfl, law_end laidOut (by kernel_rfl) hW' rfl (by kernel_rfl) Tryd.underlying4 rfl hg.below⟩
theorem tokenBack_laid (os : Os) : laidMet Tryd.prog Rows.tokenBackRow.laid ((laidWorld os).forCall (fun _ _ => 0) ⟨#[], #[.string ⟨#[]⟩], []⟩).memory :=
  laidMet_of_run' 8 (by kernel_rfl) (by kernel_rfl)
theorem tokenBack_reads (os : Os) {H : Type} (enc : TypeId × Value → H) : ∃ places, DataW.whole enc Tryd.prog ((laidWorld os).forCall (fun _ _ => 0) ⟨#[], #[.string ⟨#[]⟩], []⟩).memory Tryd.f4.params.toList Rows.tokenBackSpec.vars false #[Value.string ⟨#[]⟩].toList 8 = some ([.lit (.string [])], [], places) :=
  ⟨[], by kernel_rfl⟩
set_option maxRecDepth 100000 in
theorem tokenBack_lifted (os : Os) (started : os.Started) (H : Type) (enc : TypeId × Value → H) (F : Stop.Interp) :
    ReturnsInHanded {} Tryd.checked os 4 .any ((OpenSpec.ofChange Rows.tokenBackSpec).preRow enc Tryd.prog Tryd.f4 Rows.tokenBackRow.domain false Rows.tokenBackRow.laid) (((OpenSpec.ofChange Rows.tokenBackSpec).at F).post enc Tryd.prog Tryd.f4 false true false false) := by
  obtain ⟨places, hx⟩ := tokenBack_reads os enc
  refine returnsInHanded_of_row (C := Tryd.checked) (s := OpenSpec.ofChange Rows.tokenBackSpec) own started (by kernel_rfl) Tryd.func4
    (witness_row_at (enc := enc) (C := Tryd.checked) false (laidWorld os) #[.string ⟨#[]⟩] rfl (by kernel_rfl) (by kernel_rfl) (by kernel_rfl)
      (OpenSpec.preRow_of_cond 8 hx (by kernel_rfl) (fun k hk => by cases hk) (by kernel_rfl) (tokenBack_laid os))) ?_
  intro W base args ds gs before hval hW _ _ _ hL _ _
  exact tokenBack_contract H enc W base args ds gs before hval hW hL
theorem tokenBack_said : Rows.TokenBackSaid :=
  OpenClaim.holds_of_cond 4 Tryd.f4 rfl rfl rfl rfl rfl rfl rfl ⟨rfl, rfl, rfl, rfl, rfl⟩ rfl rfl rfl rfl rfl (by kernel_rfl) Tryd.func4 (by kernel_rfl)
    (of_decide_eq_true (by kernel_rfl)) (by unfold Func.isWrapper; first | (rw [if_pos (by decide +kernel)]; kernel_rfl) | (rw [if_neg (by decide +kernel)]; exact ⟨rfl, rfl⟩))
    (fun os started H enc _ F => by rw [OpenClaim.pre_eq_preRow]; exact tokenBack_lifted os started H enc F)
theorem tokenBack_plain (f : FuncId) (fn : Func) (hf : Tryd.pinned.checked.prog.funcNamed "demesne/demesnelaw03.TokenBack" = some f) (hfn : Tryd.pinned.checked.prog.funcs[f]? = some fn) :
    false = Tryd.pinned.checked.prog.looks [] ∧ ∀ (j : Nat) t, fn.params[j]? = some t → Tryd.pinned.checked.prog.wantsStandIn t = false := by
  obtain rfl : f = 4 := Option.some.inj ((show Tryd.prog.funcNamed "demesne/demesnelaw03.TokenBack" = some 4 by kernel_rfl).symm.trans hf) |>.symm
  obtain rfl : fn = Tryd.f4 := (Option.some.inj (Tryd.func4.symm.trans hfn)).symm
  refine ⟨by kernel_rfl, fun j t ht => ?_⟩
  rw [Tryd.params4] at ht
  obtain rfl : t = 9 := by simpa using Array.mem_of_getElem? ht
  exact (show Tryd.prog.wantsStandIn 9 = false by kernel_rfl)
/-- The card. -/
theorem tokenBack_card : Rows.TokenBackCardSaid :=
  Claim7.holds_tied_plain_at .later [] _ _ _ _ tokenBack_said (fun _ h => by cases h) (by kernel_rfl) (fun _ h => by cases h) tokenBack_row_tie rfl ⟨rfl, rfl⟩ (by kernel_rfl) rfl tokenBack_plain (by kernel_rfl)
#print axioms tokenBack_card
end Go.Proofs.YtnindeoemfgkeaaRRRRDoor
