/- Plain helpers, no program in sight: a region that draws its order, whose operations only read and whose callees write nothing that was there. Conditions: none. -/
import Derived.Test.YtiokbbjejchfbaaGreatDoorMg0
set_option linter.unusedVariables false
set_option linter.unusedSimpArgs false
namespace Go.Proofs.YtiokbbjejchfbaaGreatDoor
open Go.RowKit
/-- New blocks, and a count of draws. -/
structure HD where
  h : Array Obj
  d : Nat
instance : Inhabited HD := ⟨⟨#[], 0⟩⟩
theorem wp_region_grw {P : Program} {id : Nat} {Q : Exit → Act → World → Prop} {a : Act} {w : World} {l : List Oper} (hm : P.follows .mixedOrders = true) (hB : Region.lexB .any l.toArray = true)
    (h : wpQuiet P l.toArray (fun w' => ∃ x : HD, w' = wext w x.h x.d) (fun a' => ∀ w', (∃ x : HD, w' = wext w x.h x.d) → Q .normal a' w') l a) : (Code.region id l.toArray true).wp P Q a w :=
  wp_region_quiet (C := fun w' => ∃ x : HD, w' = wext w x.h x.d) hm hB ⟨⟨#[], w.drawn + 1⟩, by unfold wext; rw [Array.append_empty]⟩ (by simpa using h)
theorem grw_quiet {P : Program} {f : FuncId} {args : Array Value} {w : World} {x : HD} {v : Value}
    (hc : Calls P f args (wext w x.h x.d) fun e w' => e = .returned v ∧ Grw (wext w x.h x.d) w') : Calls P f args (wext w x.h x.d) fun e w'' => e = .returned v ∧ ∃ x : HD, w'' = wext w x.h x.d :=
  hc.mono fun _ _ ⟨he, h', d', hw⟩ => ⟨he, ⟨x.h ++ h', d'⟩, by rw [hw, wext_wext]⟩
theorem grw_left {P : Program} {f : FuncId} {args : Array Value} {w : World} {x : HD} {v : Value}
    (hc : Calls P f args (wext w x.h x.d) fun e w' => e = .returned v ∧ wext w x.h x.d = w') : Calls P f args (wext w x.h x.d) fun e w'' => e = .returned v ∧ ∃ x : HD, w'' = wext w x.h x.d :=
  hc.mono fun _ _ ⟨he, hw⟩ => ⟨he, x, hw.symm⟩
end Go.Proofs.YtiokbbjejchfbaaGreatDoor
