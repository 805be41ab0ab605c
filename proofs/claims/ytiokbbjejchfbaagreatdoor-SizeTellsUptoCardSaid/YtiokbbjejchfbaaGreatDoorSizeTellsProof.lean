/- size.Right, Of and Same tell of any programs what the document tells: for all programs whose reading is of bulk at most 1048576; the program's list of words is tied to the program's text. -/
import Derived.Test.YtiokbbjejchfbaaGreatDoorMg23
import Derived.Test.YtiokbbjejchfbaaGreatDoorMg24
import Derived.Test.YtiokbbjejchfbaaGreatDoorMg25
set_option linter.unusedVariables false
set_option linter.unusedSimpArgs false
namespace Go.Proofs.YtiokbbjejchfbaaGreatDoor
open Go.ChangeShapes Go.WideShapes Go.ChangeAt Go.RowKit
set_option maxRecDepth 100000 in
theorem sizeTells_contract (H : Type) (enc : TypeId × Value → H) (W : World) (base : Nat) (args : Array Value) (ds gs : List (DataW H)) (before : List MemPlace)
    (hval0 : ∀ (j : Nat) t v, Tryz.f3.params[j]? = some t → args[j]? = some v → Value.okWide Tryz.prog W .any base t v)
    (hW : DataW.Whole enc Tryz.prog Tryz.f3.params.toList Rows.sizeTellsSpec.vars false W args.toList ds gs before) (hL : laidMetH Tryz.prog Rows.sizeTellsRow.laid W) (hk : Rows.uptoBulkAll ds ≤ 1048576) :
    Calls Tryz.prog 3 args W fun e W' => ∃ v, e = .returned v ∧ Rows.sizeTellsSpec.post enc Tryz.prog Tryz.f3 false true false false W args v W' := by
  have hw := words_of hL
  have hval := hval0
  have hW' := hW
  obtain ⟨p, q, hA0, hV, rfl, _, _⟩ := hW
  have hA : DataW.TrodAll enc Tryz.prog W 0 (fun _ => true) true Tryz.f3.params.toList args.toList ds p := hA0
  rw [Tryz.params3] at hA hval
  obtain ⟨v0, v1, d0, d1, p0, p1, rfl, rfl, rfl, ⟨u0, h0⟩, ⟨u1, h1⟩⟩ := trodAll_two hA
  obtain ⟨rfl, rfl⟩ := trodVars_none hV
  obtain ⟨l, hr0, hz0⟩ := openPr u0 _ _ h0
  obtain ⟨m, hr1, hz1⟩ := openPr u1 _ _ h1
  simp only [Rows.uptoBulkAll] at hk hz0 hz1
  obtain ⟨a0, n0, c0, rfl⟩ := okWide_slice Tryz.underlying22 (hval 0 22 v0 rfl rfl)
  obtain ⟨a1, n1, c1, rfl⟩ := okWide_slice Tryz.underlying22 (hval 1 22 v1 rfl rfl)
  have r0 : RepC W (fun _ => False) (.sl (l.map Cs.at)) (.slice a0 n0 c0) := hr0.2 0 _ rfl
  have r1 : RepC W (fun _ => False) (.sl (m.map Cs.at)) (.slice a1 n1 c1) := hr1.2 0 _ rfl
  have hlaw := (pLaw10 l m (by omega) (by omega)).2 W (fun _ => False) [.slice a0 n0 c0, .slice a1 n1 c1] (fun _ h => h.elim) (fun w' hs hb => ?_) rfl (fun i d' hd => ?_)
  · refine hlaw.mono fun e W' ⟨v, he, hg, hv⟩ => ?_
    obtain ⟨rfl, _⟩ := hv.v_inv
    subst he
    exact ⟨_, rfl, law_end laidOut (by kernel_rfl) hW' rfl (by kernel_rfl) Tryz.underlying4 rfl hg.below⟩
  · have hc : isC W 0 := cells_of_cell (hw.at_ 0 [99, 108, 97, 115, 115] rfl)
    exact ⟨by have := hw.lt; omega, fun i x hx => (World.cell?_of_block (a := ⟨0, _, none⟩) (hb 0 hw.lt (fun h => h) hc)).trans (hw.at_ i x hx)⟩
  · match i with
    | 0 => simp at hd; subst hd; exact .a _ _ r0.toOut
    | 1 => simp at hd; subst hd; exact .a _ _ r1.toOut
    | i + 2 => simp at hd
theorem bulk_app {H : Type} : ∀ (a b : List (DataW H)), Rows.uptoBulkAll a ≤ Rows.uptoBulkAll (a ++ b)
  | [], _ => Nat.zero_le _
  | x :: r, b => by have := bulk_app r b; rw [List.cons_append, Rows.uptoBulkAll, Rows.uptoBulkAll]; omega
theorem sizeTells_laid (os : Os) : laidMet Tryz.prog Rows.sizeTellsRow.laid ((laidWorld os).forCall (fun _ _ => 0) ⟨#[], #[.slice none 0 0, .slice none 0 0], []⟩).memory :=
  laidMet_of_run' 8 (by kernel_rfl) (by kernel_rfl)
theorem sizeTells_reads (os : Os) {H : Type} (enc : TypeId × Value → H) : ∃ places, DataW.whole enc Tryz.prog ((laidWorld os).forCall (fun _ _ => 0) ⟨#[], #[.slice none 0 0, .slice none 0 0], []⟩).memory Tryz.f3.params.toList Rows.sizeTellsSpec.vars false #[Value.slice none 0 0, .slice none 0 0].toList 8 = some ([.nil, .nil], [], places) :=
  ⟨[], by kernel_rfl⟩
set_option maxRecDepth 100000 in
theorem sizeTells_lifted (os : Os) (started : os.Started) (H : Type) (enc : TypeId × Value → H) (F : Stop.Interp) :
    ReturnsInHanded {} Tryz.checked os 3 .any ((Rows.OpenSpec.upto Rows.sizeTellsSpec).preRow enc Tryz.prog Tryz.f3 Rows.sizeTellsUptoRow.domain false Rows.sizeTellsUptoRow.laid) (((Rows.OpenSpec.upto Rows.sizeTellsSpec).at F).post enc Tryz.prog Tryz.f3 false true false false) := by
  obtain ⟨places, hx⟩ := sizeTells_reads os enc
  refine returnsInHanded_of_row (C := Tryz.checked) (s := Rows.OpenSpec.upto Rows.sizeTellsSpec) own started (by kernel_rfl) Tryz.func3
    (witness_row_at (enc := enc) (C := Tryz.checked) false (laidWorld os) #[.slice none 0 0, .slice none 0 0] rfl (by kernel_rfl) (by kernel_rfl) (by kernel_rfl)
      (OpenSpec.preRow_of_cond 8 hx (by kernel_rfl) (fun k hk => by cases hk; kernel_rfl) (by kernel_rfl) (sizeTells_laid os))) ?_
  intro W base args ds gs before hval hW _ hcond _ hL _ _
  have hb : Rows.uptoBulkAll (ds ++ gs) ≤ 1048576 := of_decide_eq_true (hcond _ rfl)
  exact sizeTells_contract H enc W base args ds gs before hval hW hL (Nat.le_trans (bulk_app ds gs) hb)
theorem sizeTells_saidUpto : Rows.SizeTellsUptoSaid :=
  OpenClaim.holds_of_cond 3 Tryz.f3 rfl rfl rfl rfl rfl rfl rfl ⟨rfl, rfl, rfl, rfl, rfl⟩ rfl rfl rfl rfl rfl (by kernel_rfl) Tryz.func3 (by kernel_rfl)
    (of_decide_eq_true (by kernel_rfl)) (by unfold Func.isWrapper; first | (rw [if_pos (by decide +kernel)]; kernel_rfl) | (rw [if_neg (by decide +kernel)]; exact ⟨rfl, rfl⟩))
    (fun os started H enc _ F => by rw [OpenClaim.pre_eq_preRow]; exact sizeTells_lifted os started H enc F)
theorem sizeTells_plain (f : FuncId) (fn : Func) (hf : Tryz.pinned.checked.prog.funcNamed "demesne/demesnelaw10.SizeTells" = some f) (hfn : Tryz.pinned.checked.prog.funcs[f]? = some fn) :
    false = Tryz.pinned.checked.prog.looks [] ∧ ∀ (j : Nat) t, fn.params[j]? = some t → Tryz.pinned.checked.prog.wantsStandIn t = false := by
  obtain rfl : f = 3 := Option.some.inj ((show Tryz.prog.funcNamed "demesne/demesnelaw10.SizeTells" = some 3 by kernel_rfl).symm.trans hf) |>.symm
  obtain rfl : fn = Tryz.f3 := (Option.some.inj (Tryz.func3.symm.trans hfn)).symm
  refine ⟨by kernel_rfl, fun j t ht => ?_⟩
  rw [Tryz.params3] at ht
  have ht2 := Array.mem_of_getElem? ht
  simp only [List.mem_toArray, List.mem_cons, List.not_mem_nil, or_false] at ht2
  rcases ht2 with rfl | rfl
  · exact (show Tryz.prog.wantsStandIn 22 = false by kernel_rfl)
  · exact (show Tryz.prog.wantsStandIn 22 = false by kernel_rfl)
/-- The card. -/
theorem sizeTells_card : Rows.SizeTellsUptoCardSaid :=
  Claim7.holds_tied_plain_at .later [] _ _ _ _ sizeTells_saidUpto (fun _ h => by cases h) (by kernel_rfl) (fun _ h => by cases h) sizeTellsUpto_row_tie rfl ⟨rfl, rfl⟩ (by kernel_rfl) rfl sizeTells_plain (by kernel_rfl)
#print axioms sizeTells_card
end Go.Proofs.YtiokbbjejchfbaaGreatDoor
