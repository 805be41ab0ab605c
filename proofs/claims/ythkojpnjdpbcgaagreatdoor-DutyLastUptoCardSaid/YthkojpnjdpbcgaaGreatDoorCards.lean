/-
  DERIVED. GIVEN WITH THE SEED: THE CARDS: each row of YthkojpnjdpbcgaaGreatDoorRows.lean that lists a variable, with what it lists TIED to the program's text (the seventh form; the later family's looks); each row that meets fmt, with fmt's text TOLD by the authors' own Lean function (tested against real Go, not proved from fmt's source: count such statements apart). THE CARD IS WHAT COUNTS. Prove the row's statement (the work); the ties are given (YthkojpnjdpbcgaaGreatDoorTie.lean); close each card by the builder's one call (the guide's Derived/Test/ToyasCard.lean, 'card_holds'). Laid BY PROGRAM, IN A SANDBOX (cutbox-door.mjs). By AI agents, Wed Nov 11 2026. No macro, syntax, notation, axiom, sorry.
-/
import Derived.Test.YthkojpnjdpbcgaaGreatDoorRows
import GoSem.ClaimSeven
namespace Go.Proofs.YthkojpnjdpbcgaaGreatDoor
namespace Rows

/-- THE TIED CARD OF 'demesnelaw28.DutyLine'. -/
def dutyLineCard : Claim7 := { stood := { row := dutyLineRow, standIns := [], harness := (true, "a022ff5b745e2a4c4500a020787af97de7e3baefb7f7abe5f0d8dc195c51d13f"), looks := false }, kinds := [], alts := [], laidByText := true, laidKinds := [.widerDeep], laidTests := true, laidLooks := .later }
def DutyLineCardSaid : Prop := Claim7.holds Tryz.pinned (.plain (OpenSpec.ofChange dutyLineSpec)) dutyLineCard

/-- THE TIED CARD OF 'demesnelaw28.DutyLast'. -/
def dutyLastCard : Claim7 := { stood := { row := dutyLastRow, standIns := [], harness := (true, "a022ff5b745e2a4c4500a020787af97de7e3baefb7f7abe5f0d8dc195c51d13f"), looks := false }, kinds := [], alts := [], laidByText := true, laidKinds := [.widerDeep], laidTests := true, laidLooks := .later }
def DutyLastCardSaid : Prop := Claim7.holds Tryz.pinned (.plain (OpenSpec.ofChange dutyLastSpec)) dutyLastCard

/-- THE TIED CARD OF 'demesnelaw28.DutyOver'. -/
def dutyOverCard : Claim7 := { stood := { row := dutyOverRow, standIns := [], harness := (true, "a022ff5b745e2a4c4500a020787af97de7e3baefb7f7abe5f0d8dc195c51d13f"), looks := false }, kinds := [], alts := [], laidByText := true, laidKinds := [.widerDeep], laidTests := true, laidLooks := .later }
def DutyOverCardSaid : Prop := Claim7.holds Tryz.pinned (.plain (OpenSpec.ofChange dutyOverSpec)) dutyOverCard

/-- THE SECOND FORM's CARD OF 'demesnelaw28.DutyLine'. -/
def dutyLineUptoCard : Claim7 := { stood := { row := dutyLineUptoRow, standIns := [], harness := (true, "a022ff5b745e2a4c4500a020787af97de7e3baefb7f7abe5f0d8dc195c51d13f"), looks := false }, kinds := [], alts := [], laidByText := true, laidKinds := [.widerDeep], laidTests := true, laidLooks := .later }
def DutyLineUptoCardSaid : Prop := Claim7.holds Tryz.pinned (.plain (OpenSpec.upto dutyLineSpec)) dutyLineUptoCard

/-- THE SECOND FORM's CARD OF 'demesnelaw28.DutyLast'. -/
def dutyLastUptoCard : Claim7 := { stood := { row := dutyLastUptoRow, standIns := [], harness := (true, "a022ff5b745e2a4c4500a020787af97de7e3baefb7f7abe5f0d8dc195c51d13f"), looks := false }, kinds := [], alts := [], laidByText := true, laidKinds := [.widerDeep], laidTests := true, laidLooks := .later }
def DutyLastUptoCardSaid : Prop := Claim7.holds Tryz.pinned (.plain (OpenSpec.upto dutyLastSpec)) dutyLastUptoCard

/-- THE SECOND FORM's CARD OF 'demesnelaw28.DutyOver'. -/
def dutyOverUptoCard : Claim7 := { stood := { row := dutyOverUptoRow, standIns := [], harness := (true, "a022ff5b745e2a4c4500a020787af97de7e3baefb7f7abe5f0d8dc195c51d13f"), looks := false }, kinds := [], alts := [], laidByText := true, laidKinds := [.widerDeep], laidTests := true, laidLooks := .later }
def DutyOverUptoCardSaid : Prop := Claim7.holds Tryz.pinned (.plain (OpenSpec.upto dutyOverSpec)) dutyOverUptoCard
end Rows
end Go.Proofs.YthkojpnjdpbcgaaGreatDoor
