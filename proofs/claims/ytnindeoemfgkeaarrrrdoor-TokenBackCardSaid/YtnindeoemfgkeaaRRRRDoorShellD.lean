/- What the rows of this seat want besides: the program's list of words holds the language's words where the call begins. No condition. -/
import Derived.Test.YtnindeoemfgkeaaRRRRDoorShell
import Derived.Test.YtnindeoemfgkeaaRRRRDoorWord1
import Derived.Test.YtnindeoemfgkeaaRRRRDoorCards
import Derived.Test.YtnindeoemfgkeaaRRRRDoorTie
import Derived.Deep.DeepHandedRow
import Derived.Lib.LaidTab
namespace Go.Proofs.YtnindeoemfgkeaaRRRRDoor
open Go.ChangeShapes Go.WideShapes Go.ChangeAt Go.RowKit
theorem cells_of_strTab {H : Type} {enc : TypeId × Value → H} {P : Program} {w : World} {base : Nat} {sp : Nat → Bool} {held : Bool} {fuel : Nat} {t e : TypeId} {n : Nat} {cs : List Value} {ss : List (List UInt8)} {p : List MemPlace}
    (ht : P.underlying t = some (.array n e)) (he : P.underlying e = some .string) (hce : P.cellsOf e = 1) (hct : P.cellsOf t = n)
    (h : DataW.trod enc P w base sp held fuel t cs = some (.agg (ss.map fun s => .lit (.string s)), p)) : cs = ss.map fun s => Value.string (bs s) := by
  cases fuel with
  | zero => simp [DataW.trod] at h
  | succ fuel =>
    simp only [DataW.trod, ht, hce, hct, Nat.mul_one] at h
    split at h
    · obtain ⟨xs, hm, hx⟩ := Option.map_eq_some_iff.1 h
      have hxs : xs.map (·.1) = ss.map fun s => (DataW.lit (.string s) : DataW H) := by
        have := congrArg Prod.fst hx
        simpa using this
      have hxl : xs.length = n := by simpa using Lib.mapM_length hm
      have hzl : ss.length = n := by
        have := congrArg List.length hxs
        simp at this
        omega
      apply List.ext_getElem?
      intro i
      by_cases hi : i < n
      · obtain ⟨b, hb, hf⟩ := Lib.mapM_at hm i i (by simp [hi])
        obtain ⟨z, hc, rfl, _⟩ := DataW.trod_string he hf
        have h1 : cs[i]? = some (.string z) := by
          have := congrArg (·[0]?) hc
          simpa [List.getElem?_take, List.getElem?_drop] using this
        have h2 : (xs.map (·.1))[i]? = some (DataW.lit (.string z.data.toList) : DataW H) := by simp [hb]
        rw [hxs] at h2
        simp only [List.getElem?_map, Option.map_eq_some_iff, DataW.lit.injEq, Lit.string.injEq] at h2
        obtain ⟨z', hz', hzz⟩ := h2
        simp [h1, hz', hzz, bs_of]
      · rw [List.getElem?_eq_none (by omega), List.getElem?_eq_none (by simp; omega)]
    · cases h
theorem gWords : Tryd.prog.globalNamed "demesne/word.words" = some 0 := by kernel_rfl
theorem gWordsType : (Tryd.prog.globals[0]?).map (·.type) = some 69 := by kernel_rfl
theorem cellsW : Tryd.prog.cellsOf 69 = 23 := by kernel_rfl
theorem cellsS : Tryd.prog.cellsOf 9 = 1 := by kernel_rfl
theorem words_of {W : World} (h : laidMetH Tryd.prog [("demesne/word.words", Rows.laid_demesne_word_words)] W) : Wd W := by
  obtain ⟨ps, ⟨g', t', cs, fuel, p, q, hg', ht', hvar, hd, _, _⟩, _⟩ := (show laidMet Tryd.prog [("demesne/word.words", Rows.laid_demesne_word_words)] W from h)
  obtain rfl := Option.some.inj (gWords.symm.trans hg')
  obtain rfl := Option.some.inj (gWordsType.symm.trans ht')
  have hcs := cells_of_strTab (ss := wordsL) Tryd.underlying69 Tryd.underlying9 cellsS cellsW hd
  have hc : ∀ i x, wordsL[i]? = some x → W.cell? ⟨0, 0 + i, none⟩ = some (.string (bs x)) := by
    intro i x hx
    have hi : i < wordsL.length := (List.getElem?_eq_some_iff.1 hx).1
    have hv : W.var? Tryd.prog "demesne/word.words" = some (wordsL.map fun s => Value.string (bs s)).toArray := by
      rw [hvar, ← hcs]
    have := World.var?_cell gWords hv i
    rw [Nat.zero_add]
    simpa [hx] using this
  refine ⟨?_, hc⟩
  have := hc 0 [99, 108, 97, 115, 115] rfl
  rcases Nat.eq_zero_or_pos W.heap.size with h0 | h0
  · exfalso
    simp only [World.cell?] at this
    rw [Array.getElem?_eq_none (by omega)] at this
    cases this
  · exact h0
/-- A world for the witnesses: the settled one, the variable holding what its initialiser lays. -/
noncomputable def laidWorld (os : Os) : World :=
  { World.holding Tryd.prog os ⟨#[], #[], []⟩ with heap := (World.holding Tryd.prog os ⟨#[], #[], []⟩).heap.modify 0 fun
      | .cells _ t frozen => .cells (wordsL.map fun s => Value.string (bs s)).toArray t frozen
      | o => o }
end Go.Proofs.YtnindeoemfgkeaaRRRRDoor
