/-
  DERIVED. GIVEN WITH THE SEED: THE CARDS: each row of YtnindeoemfgkeaaRRRRDoorRows.lean that lists a variable, with what it lists TIED to the program's text (the seventh form; the later family's looks); each row that meets fmt, with fmt's text TOLD by the authors' own Lean function (tested against real Go, not proved from fmt's source: count such statements apart). THE CARD IS WHAT COUNTS. Prove the row's statement (the work); the ties are given (YtnindeoemfgkeaaRRRRDoorTie.lean); close each card by the builder's one call (the guide's Derived/Test/ToyasCard.lean, 'card_holds'). Laid BY PROGRAM, IN A SANDBOX (cutbox-door.mjs). By AI agents, Wed Nov 11 2026. No macro, syntax, notation, axiom, sorry.
-/
import Derived.Test.YtnindeoemfgkeaaRRRRDoorRows
import GoSem.ClaimSeven
namespace Go.Proofs.YtnindeoemfgkeaaRRRRDoor
namespace Rows

/-- THE TIED CARD OF 'demesnelaw03.TokenOf'. -/
def tokenOfCard : Claim7 := { stood := { row := tokenOfRow, standIns := [], harness := (true, "9c02f04ca5c2aaff08d16baf49dc2b8efee95043ead9d7e2cc0cab68b5b0f7f4"), looks := false }, kinds := [], alts := [], laidByText := true, laidKinds := [.widerDeep], laidTests := true, laidLooks := .later }
def TokenOfCardSaid : Prop := Claim7.holds Tryd.pinned (.plain (OpenSpec.ofChange tokenOfSpec)) tokenOfCard

/-- THE TIED CARD OF 'demesnelaw03.TokenBack'. -/
def tokenBackCard : Claim7 := { stood := { row := tokenBackRow, standIns := [], harness := (true, "9c02f04ca5c2aaff08d16baf49dc2b8efee95043ead9d7e2cc0cab68b5b0f7f4"), looks := false }, kinds := [], alts := [], laidByText := true, laidKinds := [.widerDeep], laidTests := true, laidLooks := .later }
def TokenBackCardSaid : Prop := Claim7.holds Tryd.pinned (.plain (OpenSpec.ofChange tokenBackSpec)) tokenBackCard

/-- THE TIED CARD OF 'demesnelaw03.TokenTells'. -/
def tokenTellsCard : Claim7 := { stood := { row := tokenTellsRow, standIns := [], harness := (true, "9c02f04ca5c2aaff08d16baf49dc2b8efee95043ead9d7e2cc0cab68b5b0f7f4"), looks := false }, kinds := [], alts := [], laidByText := true, laidKinds := [.widerDeep], laidTests := true, laidLooks := .later }
def TokenTellsCardSaid : Prop := Claim7.holds Tryd.pinned (.plain (OpenSpec.ofChange tokenTellsSpec)) tokenTellsCard

/-- THE SECOND FORM's CARD OF 'demesnelaw03.TokenOf'. -/
def tokenOfUptoCard : Claim7 := { stood := { row := tokenOfUptoRow, standIns := [], harness := (true, "9c02f04ca5c2aaff08d16baf49dc2b8efee95043ead9d7e2cc0cab68b5b0f7f4"), looks := false }, kinds := [], alts := [], laidByText := true, laidKinds := [.widerDeep], laidTests := true, laidLooks := .later }
def TokenOfUptoCardSaid : Prop := Claim7.holds Tryd.pinned (.plain (OpenSpec.upto tokenOfSpec)) tokenOfUptoCard

/-- THE SECOND FORM's CARD OF 'demesnelaw03.TokenBack'. -/
def tokenBackUptoCard : Claim7 := { stood := { row := tokenBackUptoRow, standIns := [], harness := (true, "9c02f04ca5c2aaff08d16baf49dc2b8efee95043ead9d7e2cc0cab68b5b0f7f4"), looks := false }, kinds := [], alts := [], laidByText := true, laidKinds := [.widerDeep], laidTests := true, laidLooks := .later }
def TokenBackUptoCardSaid : Prop := Claim7.holds Tryd.pinned (.plain (OpenSpec.upto tokenBackSpec)) tokenBackUptoCard

/-- THE SECOND FORM's CARD OF 'demesnelaw03.TokenTells'. -/
def tokenTellsUptoCard : Claim7 := { stood := { row := tokenTellsUptoRow, standIns := [], harness := (true, "9c02f04ca5c2aaff08d16baf49dc2b8efee95043ead9d7e2cc0cab68b5b0f7f4"), looks := false }, kinds := [], alts := [], laidByText := true, laidKinds := [.widerDeep], laidTests := true, laidLooks := .later }
def TokenTellsUptoCardSaid : Prop := Claim7.holds Tryd.pinned (.plain (OpenSpec.upto tokenTellsSpec)) tokenTellsUptoCard
end Rows
end Go.Proofs.YtnindeoemfgkeaaRRRRDoor
