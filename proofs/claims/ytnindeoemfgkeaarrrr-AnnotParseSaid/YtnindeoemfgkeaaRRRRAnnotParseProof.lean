/- annot.Parse and annot.Owners tell the type and the owners that the document's answer tells, at any place of any text's tokens: for every text, place, list of parameters; no condition. -/
import Derived.Test.YtnindeoemfgkeaaRRRRLaw07c
import Derived.Test.YtnindeoemfgkeaaRRRRShell
namespace Go.Proofs.YtnindeoemfgkeaaRRRR
open Go.ChangeShapes Go.WideShapes Go.ChangeAt Go.RowKit Go.Joins
theorem law07 (s : ByteArray) (at_ : Int) (ps : List (List UInt8)) (PA : Option Addr) (pc : Nat) (nm : Bool) (w : World) (hs : s.size ≤ 9223372036854775807) (ha : I64 at_) (hn : ps.length ≤ 9223372036854775807) (hp : SlB strC 1 w w.heap.size PA ps) :
    Calls Try.prog 6 #[.agg #[.string s, .int .i64 at_], .slice PA ps.length pc, .bool nm] w fun e w' => e = .returned (.bool true) ∧ Grw w w' := by
  by_cases h1 : s.size ≤ 300
  · by_cases h2 : (tokOf s.data.toList).2.1 = 0
    · by_cases h3 : ps.length ≤ 20
      · exact law07_on s at_ ps PA pc nm w hp ha h1 h3 h2
      · exact law07_off s at_ ps PA pc nm w hs hn (.inr (.inr ⟨h1, h2, by omega⟩))
    · exact law07_off s at_ ps PA pc nm w hs hn (.inr (.inl ⟨h1, h2⟩))
  · exact law07_off s at_ ps PA pc nm w hs hn (.inl (by omega))
theorem cellsAsk : Try.prog.cellsOf 49 = 2 := by kernel_rfl
theorem cellsStr : Try.prog.cellsOf 9 = 1 := by kernel_rfl
set_option maxRecDepth 100000 in
theorem annotParse_lifted (os : Os) (started : os.Started) (H : Type) (enc : TypeId × Value → H) :
    ReturnsInHanded {} Try.checked os 6 .any (Rows.annotParseSpec.pre6 enc Try.prog Try.f6 Rows.annotParseRow.domain false) (Rows.annotParseSpec.post enc Try.prog Try.f6 false true false false) := by
  refine returnsInHanded_of_change (C := Try.checked) own started (by kernel_rfl) Try.func6
    (ChangeSpec.witness6 (enc := enc) (C := Try.checked) false ⟨#[], #[.agg #[.string ⟨#[]⟩, .int .i64 0], .slice none 0 0, .bool false], []⟩ 8 (by kernel_rfl) (by kernel_rfl) (by kernel_rfl) (by kernel_rfl)) ?_
  intro W base args ds gs before hval0 hW _ _
  have hval : ∀ (j : Nat) t v, Try.f6.params[j]? = some t → args[j]? = some v → Value.okWide Try.prog W .any base t v := hval0
  have hW' := hW
  obtain ⟨p, q, hA0, hV, rfl, _, _⟩ := hW
  have hA : DataW.TrodAll enc Try.prog W 0 (fun _ => true) true Try.f6.params.toList args.toList ds p := hA0
  rw [Try.params6] at hA hval
  obtain ⟨v0, v1, v2, d0, d1, d2, p0, p1, p2, rfl, rfl, rfl, h0, h1, h2⟩ := trodAll_three hA
  obtain ⟨rfl, rfl⟩ := trodVars_none hV
  have hlt : ∀ x ∈ p1, x.block < W.heap.size := fun x hx => by simpa using hW'.lt x (by simp [hx])
  obtain ⟨c0, c1, y0, y1, m, rfl, rfl, rfl, hy0, hy1⟩ := open_agg2 Try.underlying49 (by kernel_rfl) cellsAsk (hval 0 49 v0 rfl rfl) h0
  obtain ⟨s, e0, hx0, hs⟩ := DataW.trod_string Try.underlying9 hy0
  obtain ⟨at_, e1, hx1, wa⟩ := DataW.trod_int Try.underlying3 hy1
  simp at e0 e1
  subst e0 e1
  obtain ⟨A, c, ps, rfl, hn, hsl⟩ := strs_in Try.underlying50 Try.underlying9 cellsStr (okWide_slice Try.underlying50 (hval 1 50 v1 rfl rfl)) h1 hlt
  obtain ⟨nm, rfl, _, _⟩ := open_bool Try.underlying4 (hval 2 4 v2 rfl rfl) h2
  have ha : I64 at_ := by
    have h1 : IntKind.i64.min = -9223372036854775808 := rfl
    have h2 : IntKind.i64.max = 9223372036854775807 := rfl
    simp only [Lit.wf, Bool.and_eq_true, decide_eq_true_eq] at wa
    unfold I64; omega
  refine (law07 s at_ ps A c nm W (by unfold maxLen at hs; omega) ha (by unfold maxLen at hn; omega) hsl).mono fun e W' ⟨he, hg⟩ => ?_
  subst he
  exact ⟨_, rfl, law_end laidOut (by kernel_rfl) hW' rfl (by kernel_rfl) Try.underlying4 rfl hg.below⟩
theorem annotParse_over : Rows.annotParseRow.holds Try.pinned (OpenSpec.ofChange Rows.annotParseSpec) :=
  OpenClaim.holds_of_wide 6 Try.f6 rfl rfl rfl rfl rfl rfl rfl ⟨rfl, rfl, rfl, rfl, rfl⟩ rfl rfl rfl rfl rfl (by kernel_rfl) Try.func6 (by kernel_rfl)
    (of_decide_eq_true (by kernel_rfl)) (by unfold Func.isWrapper; first | (rw [if_pos (by decide +kernel)]; kernel_rfl) | (rw [if_neg (by decide +kernel)]; exact ⟨rfl, rfl⟩))
    (fun os started H enc _ => annotParse_lifted os started H enc)
/-- The statement. -/
theorem annotParse_proved : Rows.AnnotParseSaid := annotParse_over
#print axioms annotParse_proved
end Go.Proofs.YtnindeoemfgkeaaRRRR
