/-
  DERIVED. GIVEN WITH THE SEED: THE CARDS: each row of YtiokbbjejchfbaaGreatDoorRows.lean that lists a variable, with what it lists TIED to the program's text (the seventh form; the later family's looks); each row that meets fmt, with fmt's text TOLD by the authors' own Lean function (tested against real Go, not proved from fmt's source: count such statements apart). THE CARD IS WHAT COUNTS. Prove the row's statement (the work); the ties are given (YtiokbbjejchfbaaGreatDoorTie.lean); close each card by the builder's one call (the guide's Derived/Test/ToyasCard.lean, 'card_holds'). Laid BY PROGRAM, IN A SANDBOX (cutbox-door.mjs). By AI agents, Wed Nov 11 2026. No macro, syntax, notation, axiom, sorry.
-/
import Derived.Test.YtiokbbjejchfbaaGreatDoorRows
import GoSem.ClaimSeven
namespace Go.Proofs.YtiokbbjejchfbaaGreatDoor
namespace Rows

/-- THE TIED CARD OF 'demesnelaw10.SizeTells'. -/
def sizeTellsCard : Claim7 := { stood := { row := sizeTellsRow, standIns := [], harness := (true, "2cae0647d70e54b9036a3ba6b2ddd46955d5f1bcbccf6533e14a9e0258739bb4"), looks := false }, kinds := [], alts := [], laidByText := true, laidKinds := [.widerDeep], laidTests := true, laidLooks := .later }
def SizeTellsCardSaid : Prop := Claim7.holds Tryz.pinned (.plain (OpenSpec.ofChange sizeTellsSpec)) sizeTellsCard

/-- THE SECOND FORM's CARD OF 'demesnelaw10.SizeTells'. -/
def sizeTellsUptoCard : Claim7 := { stood := { row := sizeTellsUptoRow, standIns := [], harness := (true, "2cae0647d70e54b9036a3ba6b2ddd46955d5f1bcbccf6533e14a9e0258739bb4"), looks := false }, kinds := [], alts := [], laidByText := true, laidKinds := [.widerDeep], laidTests := true, laidLooks := .later }
def SizeTellsUptoCardSaid : Prop := Claim7.holds Tryz.pinned (.plain (OpenSpec.upto sizeTellsSpec)) sizeTellsUptoCard
end Rows
end Go.Proofs.YtiokbbjejchfbaaGreatDoor
