/- token.Text, Same and Is tell which text any tokens have, whether they are the same as others, and whether one is a word or sign, as the document's answer does: for all tokens and every text; the program's list of words is tied to the program's text. -/
import Derived.Test.YtnindeoemfgkeaaRRRRDoorLaw03b
import Derived.Test.YtnindeoemfgkeaaRRRRDoorShellD
import Derived.Test.YtnindeoemfgkeaaRRRRDoorShellT
namespace Go.Proofs.YtnindeoemfgkeaaRRRRDoor
open Go.ChangeShapes Go.WideShapes Go.ChangeAt Go.RowKit Go.Joins Go.Deep
theorem UArr : Tryd.prog.underlying 34 = some (.array 2 23) := Tryd.underlying34
theorem cellsArr : Tryd.prog.cellsOf 34 = 2 := by kernel_rfl
theorem cellsSl : Tryd.prog.cellsOf 23 = 1 := by kernel_rfl
theorem cellsTok : Tryd.prog.cellsOf 30 = 3 := by kernel_rfl
theorem law03Tells (a b : List Tok) (A1 A2 : Option Addr) (c1 c2 : Nat) (x : Tok) (s : ByteArray) (w : World) (hw : Wd w) (h1 : SlB Tok.cells 3 w w.heap.size A1 a) (h2 : SlB Tok.cells 3 w w.heap.size A2 b) (hn : a.length ≤ maxLen) (hm : b.length ≤ maxLen) :
    Calls Tryd.prog 5 #[.agg #[.slice A1 a.length c1, .slice A2 b.length c2], .agg #[.int .i64 x.kind, .string (bs x.text), .int .i64 x.pos], .string s] w fun e w' => e = .returned (.bool true) ∧ Grw w w' := by
  unfold maxLen at *
  by_cases h : a.length ≤ 60 ∧ b.length ≤ 60
  · exact law03Tells_near a b A1 A2 c1 c2 w.heap.size x s w hw h.1 h.2 h1 h2 (Nat.le_refl _)
  · exact law03Tells_far a b A1 A2 c1 c2 x s w hw (by omega) (by omega) (by omega)
theorem tokenTells_contract (H : Type) (enc : TypeId × Value → H) (W : World) (base : Nat) (args : Array Value) (ds gs : List (DataW H)) (before : List MemPlace)
    (hval0 : ∀ (j : Nat) t v, Tryd.f5.params[j]? = some t → args[j]? = some v → Value.okWide Tryd.prog W .any base t v)
    (hW : DataW.Whole enc Tryd.prog Tryd.f5.params.toList Rows.tokenTellsSpec.vars false W args.toList ds gs before) (hL : laidMetH Tryd.prog Rows.tokenTellsRow.laid W) :
    Calls Tryd.prog 5 args W fun e W' => ∃ v, e = .returned v ∧ Rows.tokenTellsSpec.post enc Tryd.prog Tryd.f5 false true false false W args v W' := by
  have hw := words_of hL
  have hval := hval0
  have hW' := hW
  obtain ⟨p, q, hA0, hV, rfl, _, _⟩ := hW
  have hA : DataW.TrodAll enc Tryd.prog W 0 (fun _ => true) true Tryd.f5.params.toList args.toList ds p := hA0
  rw [Tryd.params5] at hA hval
  obtain ⟨v0, v1, v2, d0, d1, d2, p0, p1, p2, rfl, rfl, rfl, h0, h1, h2⟩ := trodAll_three hA
  obtain ⟨rfl, rfl⟩ := trodVars_none hV
  obtain ⟨A1, c1, a, A2, c2, b, rfl, hn1, hn2, hs1, hs2, hm⟩ := two_in UArr cellsArr cellsSl Tryd.underlying23 Tryd.underlying30 (by kernel_rfl) cellsTok Tryd.underlying3 Tryd.underlying9 Tryd.underlying3 (hval 0 34 v0 rfl rfl) h0
  obtain ⟨x0, x1, x2, y0, y1, y2, m, rfl, rfl, rfl, hy0, hy1, hy2⟩ := open_agg3 Tryd.underlying30 (by kernel_rfl) cellsTok (hval 1 30 v1 rfl rfl) h1
  obtain ⟨k, e0, hx0, _⟩ := DataW.trod_int Tryd.underlying3 hy0
  obtain ⟨z, e1, hx1, hz⟩ := DataW.trod_string Tryd.underlying9 hy1
  obtain ⟨q, e2, hx2, _⟩ := DataW.trod_int Tryd.underlying3 hy2
  simp at e0 e1 e2
  subst e0 e1 e2
  obtain ⟨s, rfl, rfl, rfl, hs⟩ := Go.ChangeMaps.open_string Tryd.underlying9 (hval 2 9 v2 rfl rfl) h2
  refine (law03Tells a b A1 A2 c1 c2 ⟨k, z.data.toList, q⟩ s W hw hs1 hs2 hn1 hn2).mono fun e W' ⟨he, hg⟩ => ?_
  subst he
  exact ⟨_, rfl, law_end laidOut (by kernel_rfl) hW' rfl (by kernel_rfl) Tryd.underlying4 rfl hg.below⟩
theorem tokenTells_laid (os : Os) : laidMet Tryd.prog Rows.tokenTellsRow.laid ((laidWorld os).forCall (fun _ _ => 0) ⟨#[], #[.agg #[.slice none 0 0, .slice none 0 0], .agg #[.int .i64 0, .string ⟨#[]⟩, .int .i64 0], .string ⟨#[]⟩], []⟩).memory :=
  laidMet_of_run' 8 (by kernel_rfl) (by kernel_rfl)
theorem tokenTells_reads (os : Os) {H : Type} (enc : TypeId × Value → H) : ∃ places, DataW.whole enc Tryd.prog ((laidWorld os).forCall (fun _ _ => 0) ⟨#[], #[.agg #[.slice none 0 0, .slice none 0 0], .agg #[.int .i64 0, .string ⟨#[]⟩, .int .i64 0], .string ⟨#[]⟩], []⟩).memory Tryd.f5.params.toList Rows.tokenTellsSpec.vars false #[Value.agg #[.slice none 0 0, .slice none 0 0], .agg #[.int .i64 0, .string ⟨#[]⟩, .int .i64 0], .string ⟨#[]⟩].toList 8 = some ([.agg [.nil, .nil], .agg [.lit (.int .i64 0), .lit (.string []), .lit (.int .i64 0)], .lit (.string [])], [], places) :=
  ⟨[], by kernel_rfl⟩
set_option maxRecDepth 100000 in
theorem tokenTells_lifted (os : Os) (started : os.Started) (H : Type) (enc : TypeId × Value → H) (F : Stop.Interp) :
    ReturnsInHanded {} Tryd.checked os 5 .any ((OpenSpec.ofChange Rows.tokenTellsSpec).preRow enc Tryd.prog Tryd.f5 Rows.tokenTellsRow.domain false Rows.tokenTellsRow.laid) (((OpenSpec.ofChange Rows.tokenTellsSpec).at F).post enc Tryd.prog Tryd.f5 false true false false) := by
  obtain ⟨places, hx⟩ := tokenTells_reads os enc
  refine returnsInHanded_of_row (C := Tryd.checked) (s := OpenSpec.ofChange Rows.tokenTellsSpec) own started (by kernel_rfl) Tryd.func5
    (witness_row_at (enc := enc) (C := Tryd.checked) false (laidWorld os) #[.agg #[.slice none 0 0, .slice none 0 0], .agg #[.int .i64 0, .string ⟨#[]⟩, .int .i64 0], .string ⟨#[]⟩] rfl (by kernel_rfl) (by kernel_rfl) (by kernel_rfl)
      (OpenSpec.preRow_of_cond 8 hx (by kernel_rfl) (fun k hk => by cases hk) (by kernel_rfl) (tokenTells_laid os))) ?_
  intro W base args ds gs before hval hW _ _ _ hL _ _
  exact tokenTells_contract H enc W base args ds gs before hval hW hL
theorem tokenTells_said : Rows.TokenTellsSaid :=
  OpenClaim.holds_of_cond 5 Tryd.f5 rfl rfl rfl rfl rfl rfl rfl ⟨rfl, rfl, rfl, rfl, rfl⟩ rfl rfl rfl rfl rfl (by kernel_rfl) Tryd.func5 (by kernel_rfl)
    (of_decide_eq_true (by kernel_rfl)) (by unfold Func.isWrapper; first | (rw [if_pos (by decide +kernel)]; kernel_rfl) | (rw [if_neg (by decide +kernel)]; exact ⟨rfl, rfl⟩))
    (fun os started H enc _ F => by rw [OpenClaim.pre_eq_preRow]; exact tokenTells_lifted os started H enc F)
theorem tokenTells_plain (f : FuncId) (fn : Func) (hf : Tryd.pinned.checked.prog.funcNamed "demesne/demesnelaw03.TokenTells" = some f) (hfn : Tryd.pinned.checked.prog.funcs[f]? = some fn) :
    false = Tryd.pinned.checked.prog.looks [] ∧ ∀ (j : Nat) t, fn.params[j]? = some t → Tryd.pinned.checked.prog.wantsStandIn t = false := by
  obtain rfl : f = 5 := Option.some.inj ((show Tryd.prog.funcNamed "demesne/demesnelaw03.TokenTells" = some 5 by kernel_rfl).symm.trans hf) |>.symm
  obtain rfl : fn = Tryd.f5 := (Option.some.inj (Tryd.func5.symm.trans hfn)).symm
  refine ⟨by kernel_rfl, fun j t ht => ?_⟩
  rw [Tryd.params5] at ht
  have ht2 := Array.mem_of_getElem? ht
  simp only [List.mem_toArray, List.mem_cons, List.not_mem_nil, or_false] at ht2
  rcases ht2 with rfl | rfl | rfl
  · exact (show Tryd.prog.wantsStandIn 34 = false by kernel_rfl)
  · exact (show Tryd.prog.wantsStandIn 30 = false by kernel_rfl)
  · exact (show Tryd.prog.wantsStandIn 9 = false by kernel_rfl)
/-- The card. -/
theorem tokenTells_card : Rows.TokenTellsCardSaid :=
  Claim7.holds_tied_plain_at .later [] _ _ _ _ tokenTells_said (fun _ h => by cases h) (by kernel_rfl) (fun _ h => by cases h) tokenTells_row_tie rfl ⟨rfl, rfl⟩ (by kernel_rfl) rfl tokenTells_plain (by kernel_rfl)
#print axioms tokenTells_card
end Go.Proofs.YtnindeoemfgkeaaRRRRDoor
