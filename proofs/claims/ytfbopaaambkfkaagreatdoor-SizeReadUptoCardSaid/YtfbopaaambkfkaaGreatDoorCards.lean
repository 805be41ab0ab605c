/-
  DERIVED. GIVEN WITH THE SEED: THE CARDS: each row of YtfbopaaambkfkaaGreatDoorRows.lean that lists a variable, with what it lists TIED to the program's text (the seventh form; the later family's looks); each row that meets fmt, with fmt's text TOLD by the authors' own Lean function (tested against real Go, not proved from fmt's source: count such statements apart). THE CARD IS WHAT COUNTS. Prove the row's statement (the work); the ties are given (YtfbopaaambkfkaaGreatDoorTie.lean); close each card by the builder's one call (the guide's Derived/Test/ToyasCard.lean, 'card_holds'). Laid BY PROGRAM, IN A SANDBOX (cutbox-door.mjs). By AI agents, Wed Nov 11 2026. No macro, syntax, notation, axiom, sorry.
-/
import Derived.Test.YtfbopaaambkfkaaGreatDoorRows
import GoSem.ClaimSeven
namespace Go.Proofs.YtfbopaaambkfkaaGreatDoor
namespace Rows

/-- THE TIED CARD OF 'demesnelaw10.SizeRead'. -/
def sizeReadCard : Claim7 := { stood := { row := sizeReadRow, standIns := [], harness := (true, "61cb387d8c67fd6dd12caaa9648f807062a25b304de5c2dbbea277c70a3ed34b"), looks := false }, kinds := [], alts := [], laidByText := true, laidKinds := [.widerDeep], laidTests := true, laidLooks := .later }
def SizeReadCardSaid : Prop := Claim7.holds Tryz.pinned (.plain (OpenSpec.ofChange sizeReadSpec)) sizeReadCard

/-- THE SECOND FORM's CARD OF 'demesnelaw10.SizeRead'. -/
def sizeReadUptoCard : Claim7 := { stood := { row := sizeReadUptoRow, standIns := [], harness := (true, "61cb387d8c67fd6dd12caaa9648f807062a25b304de5c2dbbea277c70a3ed34b"), looks := false }, kinds := [], alts := [], laidByText := true, laidKinds := [.widerDeep], laidTests := true, laidLooks := .later }
def SizeReadUptoCardSaid : Prop := Claim7.holds Tryz.pinned (.plain (OpenSpec.upto sizeReadSpec)) sizeReadUptoCard
end Rows
end Go.Proofs.YtfbopaaambkfkaaGreatDoor
