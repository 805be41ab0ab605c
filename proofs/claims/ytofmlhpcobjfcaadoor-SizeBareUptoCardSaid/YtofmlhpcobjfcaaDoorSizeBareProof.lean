/- Any program without its places is the same, stands nowhere, and is its own again: for all programs whose reading is of bulk at most 1048576; the program's list of words is tied to the program's text. -/
import Derived.Test.YtofmlhpcobjfcaaDoorMg29
import Derived.Test.YtofmlhpcobjfcaaDoorMg30
import Derived.Test.YtofmlhpcobjfcaaDoorMg31
set_option linter.unusedVariables false
set_option linter.unusedSimpArgs false
namespace Go.Proofs.YtofmlhpcobjfcaaDoor
open Go.ChangeShapes Go.WideShapes Go.ChangeAt Go.RowKit
set_option maxRecDepth 100000 in
theorem sizeBare_contract (H : Type) (enc : TypeId × Value → H) (W : World) (base : Nat) (args : Array Value) (ds gs : List (DataW H)) (before : List MemPlace)
    (hval0 : ∀ (j : Nat) t v, Tryd.f3.params[j]? = some t → args[j]? = some v → Value.okWide Tryd.prog W .any base t v)
    (hW : DataW.Whole enc Tryd.prog Tryd.f3.params.toList Rows.sizeBareSpec.vars false W args.toList ds gs before) (hL : laidMetH Tryd.prog Rows.sizeBareRow.laid W) (hk : Rows.uptoBulkAll ds ≤ 1048576) :
    Calls Tryd.prog 3 args W fun e W' => ∃ v, e = .returned v ∧ Rows.sizeBareSpec.post enc Tryd.prog Tryd.f3 false true false false W args v W' := by
  have hw := words_of hL
  have hval := hval0
  have hW' := hW
  obtain ⟨p, q, hA0, hV, rfl, _, _⟩ := hW
  have hA : DataW.TrodAll enc Tryd.prog W 0 (fun _ => true) true Tryd.f3.params.toList args.toList ds p := hA0
  rw [Tryd.params3] at hA hval
  obtain ⟨v0, d0, rfl, rfl, ⟨u0, h0⟩⟩ := trodAll_one hA
  obtain ⟨rfl, rfl⟩ := trodVars_none hV
  obtain ⟨l, hr0, hz0⟩ := openPr u0 _ _ h0
  simp only [Rows.uptoBulkAll] at hk hz0
  obtain ⟨a0, n0, c0, rfl⟩ := okWide_slice Tryd.underlying22 (hval 0 22 v0 rfl rfl)
  have r0 : RepC W (fun _ => False) (.sl (l.map Cs.at)) (.slice a0 n0 c0) := hr0.2 0 _ rfl
  have hlaw := (pLawBare l (by omega)).2 W (fun _ => False) [.slice a0 n0 c0] (fun _ h => h.elim) (fun w' hs hb => ?_) rfl (fun i d' hd => ?_)
  · refine hlaw.mono fun e W' ⟨v, he, hg, hv⟩ => ?_
    obtain ⟨rfl, _⟩ := hv.v_inv
    subst he
    exact ⟨_, rfl, law_end laidOut (by kernel_rfl) hW' rfl (by kernel_rfl) Tryd.underlying4 rfl hg.below⟩
  · have hc : isC W 0 := cellsK (hw.at_ 0 [99, 108, 97, 115, 115] rfl)
    exact ⟨by have := hw.lt; omega, fun i x hx => (World.cell?_of_block (a := ⟨0, _, none⟩) (hb 0 hw.lt (fun h => h) hc)).trans (hw.at_ i x hx)⟩
  · match i with
    | 0 => simp at hd; subst hd; exact .a _ _ r0.toOut
    | i + 1 => simp at hd
theorem bulk_app {H : Type} : ∀ (a b : List (DataW H)), Rows.uptoBulkAll a ≤ Rows.uptoBulkAll (a ++ b)
  | [], _ => Nat.zero_le _
  | x :: r, b => by have := bulk_app r b; rw [List.cons_append, Rows.uptoBulkAll, Rows.uptoBulkAll]; omega
theorem sizeBare_laid (os : Os) : laidMet Tryd.prog Rows.sizeBareRow.laid ((laidWorld os).forCall (fun _ _ => 0) ⟨#[], #[.slice none 0 0], []⟩).memory :=
  laidMet_of_run' 8 (by kernel_rfl) (by kernel_rfl)
theorem sizeBare_reads (os : Os) {H : Type} (enc : TypeId × Value → H) : ∃ places, DataW.whole enc Tryd.prog ((laidWorld os).forCall (fun _ _ => 0) ⟨#[], #[.slice none 0 0], []⟩).memory Tryd.f3.params.toList Rows.sizeBareSpec.vars false #[Value.slice none 0 0].toList 8 = some ([.nil], [], places) :=
  ⟨[], by kernel_rfl⟩
set_option maxRecDepth 100000 in
theorem sizeBare_lifted (os : Os) (started : os.Started) (H : Type) (enc : TypeId × Value → H) (F : Stop.Interp) :
    ReturnsInHanded {} Tryd.checked os 3 .any ((Rows.OpenSpec.upto Rows.sizeBareSpec).preRow enc Tryd.prog Tryd.f3 Rows.sizeBareUptoRow.domain false Rows.sizeBareUptoRow.laid) (((Rows.OpenSpec.upto Rows.sizeBareSpec).at F).post enc Tryd.prog Tryd.f3 false true false false) := by
  obtain ⟨places, hx⟩ := sizeBare_reads os enc
  refine returnsInHanded_of_row (C := Tryd.checked) (s := Rows.OpenSpec.upto Rows.sizeBareSpec) own started (by kernel_rfl) Tryd.func3
    (witness_row_at (enc := enc) (C := Tryd.checked) false (laidWorld os) #[.slice none 0 0] rfl (by kernel_rfl) (by kernel_rfl) (by kernel_rfl)
      (OpenSpec.preRow_of_cond 8 hx (by kernel_rfl) (fun k hk => by cases hk; kernel_rfl) (by kernel_rfl) (sizeBare_laid os))) ?_
  intro W base args ds gs before hval hW _ hcond _ hL _ _
  have hb : Rows.uptoBulkAll (ds ++ gs) ≤ 1048576 := of_decide_eq_true (hcond _ rfl)
  exact sizeBare_contract H enc W base args ds gs before hval hW hL (Nat.le_trans (bulk_app ds gs) hb)
theorem sizeBare_saidUpto : Rows.SizeBareUptoSaid :=
  OpenClaim.holds_of_cond 3 Tryd.f3 rfl rfl rfl rfl rfl rfl rfl ⟨rfl, rfl, rfl, rfl, rfl⟩ rfl rfl rfl rfl rfl (by kernel_rfl) Tryd.func3 (by kernel_rfl)
    (of_decide_eq_true (by kernel_rfl)) (by unfold Func.isWrapper; first | (rw [if_pos (by decide +kernel)]; kernel_rfl) | (rw [if_neg (by decide +kernel)]; exact ⟨rfl, rfl⟩))
    (fun os started H enc _ F => by rw [OpenClaim.pre_eq_preRow]; exact sizeBare_lifted os started H enc F)
theorem sizeBare_plain (f : FuncId) (fn : Func) (hf : Tryd.pinned.checked.prog.funcNamed "demesne/demesnelaw10.SizeBare" = some f) (hfn : Tryd.pinned.checked.prog.funcs[f]? = some fn) :
    false = Tryd.pinned.checked.prog.looks [] ∧ ∀ (j : Nat) t, fn.params[j]? = some t → Tryd.pinned.checked.prog.wantsStandIn t = false := by
  obtain rfl : f = 3 := Option.some.inj ((show Tryd.prog.funcNamed "demesne/demesnelaw10.SizeBare" = some 3 by kernel_rfl).symm.trans hf) |>.symm
  obtain rfl : fn = Tryd.f3 := (Option.some.inj (Tryd.func3.symm.trans hfn)).symm
  refine ⟨by kernel_rfl, fun j t ht => ?_⟩
  rw [Tryd.params3] at ht
  have ht2 := Array.mem_of_getElem? ht
  simp only [List.mem_toArray, List.mem_cons, List.not_mem_nil, or_false] at ht2
  subst ht2
  exact (show Tryd.prog.wantsStandIn 22 = false by kernel_rfl)
/-- The card. -/
theorem sizeBare_card : Rows.SizeBareUptoCardSaid :=
  Claim7.holds_tied_plain_at .later [] _ _ _ _ sizeBare_saidUpto (fun _ h => by cases h) (by kernel_rfl) (fun _ h => by cases h) sizeBareUpto_row_tie rfl ⟨rfl, rfl⟩ (by kernel_rfl) rfl sizeBare_plain (by kernel_rfl)
end Go.Proofs.YtofmlhpcobjfcaaDoor
