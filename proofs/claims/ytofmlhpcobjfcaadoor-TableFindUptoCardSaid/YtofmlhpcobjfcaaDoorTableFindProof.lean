/- table.Find and table.Arity tell of any program what the document tells: for all programs whose reading is of bulk at most 1048576; the program's list of words is tied to the program's text. -/
import Derived.Test.YtofmlhpcobjfcaaDoorMg28
import Derived.Test.YtofmlhpcobjfcaaDoorMg29
import Derived.Test.YtofmlhpcobjfcaaDoorMg30
set_option linter.unusedVariables false
set_option linter.unusedSimpArgs false
namespace Go.Proofs.YtofmlhpcobjfcaaDoor
open Go.ChangeShapes Go.WideShapes Go.ChangeAt Go.RowKit
set_option maxRecDepth 100000 in
theorem tableFind_contract (H : Type) (enc : TypeId × Value → H) (W : World) (base : Nat) (args : Array Value) (ds gs : List (DataW H)) (before : List MemPlace)
    (hval0 : ∀ (j : Nat) t v, Tryd.f4.params[j]? = some t → args[j]? = some v → Value.okWide Tryd.prog W .any base t v)
    (hW : DataW.Whole enc Tryd.prog Tryd.f4.params.toList Rows.tableFindSpec.vars false W args.toList ds gs before) (hL : laidMetH Tryd.prog Rows.tableFindRow.laid W) (hk : Rows.uptoBulkAll ds ≤ 1048576) :
    Calls Tryd.prog 4 args W fun e W' => ∃ v, e = .returned v ∧ Rows.tableFindSpec.post enc Tryd.prog Tryd.f4 false true false false W args v W' := by
  have hw := words_of hL
  have hval := hval0
  have hW' := hW
  obtain ⟨p, q, hA0, hV, rfl, _, _⟩ := hW
  have hA : DataW.TrodAll enc Tryd.prog W 0 (fun _ => true) true Tryd.f4.params.toList args.toList ds p := hA0
  rw [Tryd.params4] at hA hval
  obtain ⟨v0, v1, d0, d1, p0, p1, rfl, rfl, rfl, ⟨u0, h0⟩, ⟨u1, h1⟩⟩ := trodAll_two hA
  obtain ⟨rfl, rfl⟩ := trodVars_none hV
  obtain ⟨l, hr0, hz0⟩ := openPr u0 _ _ h0
  obtain ⟨s, rfl, rfl, rfl, hs⟩ := Go.ChangeMaps.open_string Tryd.underlying9 (hval 1 9 v1 rfl rfl) ⟨u1, h1⟩
  simp only [Rows.uptoBulkAll] at hk hz0
  obtain ⟨a0, n0, c0, rfl⟩ := okWide_slice Tryd.underlying22 (hval 0 22 v0 rfl rfl)
  have r0 : RepC W (fun _ => False) (.sl (l.map Cs.at)) (.slice a0 n0 c0) := hr0.2 0 _ rfl
  have hlen := sumOf_len Cs.sz_pos l
  have hlaw := (pLaw13 l s.data.toList (by omega)).2 W (fun _ => False) [.slice a0 n0 c0, .string s] (fun _ h => h.elim) (fun w' hs hb => ?_) rfl (fun i d' hd => ?_)
  · refine hlaw.mono fun e W' ⟨v, he, hg, hv⟩ => ?_
    obtain ⟨rfl, _⟩ := hv.v_inv
    subst he
    exact ⟨_, rfl, law_end laidOut (by kernel_rfl) hW' rfl (by kernel_rfl) Tryd.underlying4 rfl hg.below⟩
  · have hc : isC W 0 := cellsK (hw.at_ 0 [99, 108, 97, 115, 115] rfl)
    exact ⟨by have := hw.lt; omega, fun i x hx => (World.cell?_of_block (a := ⟨0, _, none⟩) (hb 0 hw.lt (fun h => h) hc)).trans (hw.at_ i x hx)⟩
  · match i with
    | 0 => simp at hd; subst hd; exact .a _ _ r0.toOut
    | 1 => simp at hd; subst hd; exact .a _ _ (.c _ _ (.v _ rfl))
    | i + 2 => simp at hd
theorem bulk_app {H : Type} : ∀ (a b : List (DataW H)), Rows.uptoBulkAll a ≤ Rows.uptoBulkAll (a ++ b)
  | [], _ => Nat.zero_le _
  | x :: r, b => by have := bulk_app r b; rw [List.cons_append, Rows.uptoBulkAll, Rows.uptoBulkAll]; omega
theorem tableFind_laid (os : Os) : laidMet Tryd.prog Rows.tableFindRow.laid ((laidWorld os).forCall (fun _ _ => 0) ⟨#[], #[.slice none 0 0, .string ⟨#[]⟩], []⟩).memory :=
  laidMet_of_run' 8 (by kernel_rfl) (by kernel_rfl)
theorem tableFind_reads (os : Os) {H : Type} (enc : TypeId × Value → H) : ∃ places, DataW.whole enc Tryd.prog ((laidWorld os).forCall (fun _ _ => 0) ⟨#[], #[.slice none 0 0, .string ⟨#[]⟩], []⟩).memory Tryd.f4.params.toList Rows.tableFindSpec.vars false #[Value.slice none 0 0, .string ⟨#[]⟩].toList 8 = some ([.nil, .lit (.string [])], [], places) :=
  ⟨[], by kernel_rfl⟩
set_option maxRecDepth 100000 in
theorem tableFind_lifted (os : Os) (started : os.Started) (H : Type) (enc : TypeId × Value → H) (F : Stop.Interp) :
    ReturnsInHanded {} Tryd.checked os 4 .any ((Rows.OpenSpec.upto Rows.tableFindSpec).preRow enc Tryd.prog Tryd.f4 Rows.tableFindUptoRow.domain false Rows.tableFindUptoRow.laid) (((Rows.OpenSpec.upto Rows.tableFindSpec).at F).post enc Tryd.prog Tryd.f4 false true false false) := by
  obtain ⟨places, hx⟩ := tableFind_reads os enc
  refine returnsInHanded_of_row (C := Tryd.checked) (s := Rows.OpenSpec.upto Rows.tableFindSpec) own started (by kernel_rfl) Tryd.func4
    (witness_row_at (enc := enc) (C := Tryd.checked) false (laidWorld os) #[.slice none 0 0, .string ⟨#[]⟩] rfl (by kernel_rfl) (by kernel_rfl) (by kernel_rfl)
      (OpenSpec.preRow_of_cond 8 hx (by kernel_rfl) (fun k hk => by cases hk; kernel_rfl) (by kernel_rfl) (tableFind_laid os))) ?_
  intro W base args ds gs before hval hW _ hcond _ hL _ _
  have hb : Rows.uptoBulkAll (ds ++ gs) ≤ 1048576 := of_decide_eq_true (hcond _ rfl)
  exact tableFind_contract H enc W base args ds gs before hval hW hL (Nat.le_trans (bulk_app ds gs) hb)
theorem tableFind_saidUpto : Rows.TableFindUptoSaid :=
  OpenClaim.holds_of_cond 4 Tryd.f4 rfl rfl rfl rfl rfl rfl rfl ⟨rfl, rfl, rfl, rfl, rfl⟩ rfl rfl rfl rfl rfl (by kernel_rfl) Tryd.func4 (by kernel_rfl)
    (of_decide_eq_true (by kernel_rfl)) (by unfold Func.isWrapper; first | (rw [if_pos (by decide +kernel)]; kernel_rfl) | (rw [if_neg (by decide +kernel)]; exact ⟨rfl, rfl⟩))
    (fun os started H enc _ F => by rw [OpenClaim.pre_eq_preRow]; exact tableFind_lifted os started H enc F)
theorem tableFind_plain (f : FuncId) (fn : Func) (hf : Tryd.pinned.checked.prog.funcNamed "demesne/demesnelaw13.TableFind" = some f) (hfn : Tryd.pinned.checked.prog.funcs[f]? = some fn) :
    false = Tryd.pinned.checked.prog.looks [] ∧ ∀ (j : Nat) t, fn.params[j]? = some t → Tryd.pinned.checked.prog.wantsStandIn t = false := by
  obtain rfl : f = 4 := Option.some.inj ((show Tryd.prog.funcNamed "demesne/demesnelaw13.TableFind" = some 4 by kernel_rfl).symm.trans hf) |>.symm
  obtain rfl : fn = Tryd.f4 := (Option.some.inj (Tryd.func4.symm.trans hfn)).symm
  refine ⟨by kernel_rfl, fun j t ht => ?_⟩
  rw [Tryd.params4] at ht
  have ht2 := Array.mem_of_getElem? ht
  simp only [List.mem_toArray, List.mem_cons, List.not_mem_nil, or_false] at ht2
  rcases ht2 with rfl | rfl
  · exact (show Tryd.prog.wantsStandIn 22 = false by kernel_rfl)
  · exact (show Tryd.prog.wantsStandIn 9 = false by kernel_rfl)
/-- The card. -/
theorem tableFind_card : Rows.TableFindUptoCardSaid :=
  Claim7.holds_tied_plain_at .later [] _ _ _ _ tableFind_saidUpto (fun _ h => by cases h) (by kernel_rfl) (fun _ h => by cases h) tableFindUpto_row_tie rfl ⟨rfl, rfl⟩ (by kernel_rfl) rfl tableFind_plain (by kernel_rfl)
end Go.Proofs.YtofmlhpcobjfcaaDoor
