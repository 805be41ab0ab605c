/-
  DERIVED. GIVEN WITH THE SEED: THE CARDS: each row of YtofmlhpcobjfcaaDoorRows.lean that lists a variable, with what it lists TIED to the program's text (the seventh form; the later family's looks); each row that meets fmt, with fmt's text TOLD by the authors' own Lean function (tested against real Go, not proved from fmt's source: count such statements apart). THE CARD IS WHAT COUNTS. Prove the row's statement (the work); the ties are given (YtofmlhpcobjfcaaDoorTie.lean); close each card by the builder's one call (the guide's Derived/Test/ToyasCard.lean, 'card_holds'). Laid BY PROGRAM, IN A SANDBOX (cutbox-door.mjs). By AI agents, Wed Nov 11 2026. No macro, syntax, notation, axiom, sorry.
-/
import Derived.Test.YtofmlhpcobjfcaaDoorRows
import GoSem.ClaimSeven
namespace Go.Proofs.YtofmlhpcobjfcaaDoor
namespace Rows

/-- THE TIED CARD OF 'demesnelaw10.SizeBare'. -/
def sizeBareCard : Claim7 := { stood := { row := sizeBareRow, standIns := [], harness := (true, "ff4c49680a61dd2af94364c0079c06d196aca76e6d4024b131ffb8b04891eeae"), looks := false }, kinds := [], alts := [], laidByText := true, laidKinds := [.widerDeep], laidTests := true, laidLooks := .later }
def SizeBareCardSaid : Prop := Claim7.holds Tryd.pinned (.plain (OpenSpec.ofChange sizeBareSpec)) sizeBareCard

/-- THE TIED CARD OF 'demesnelaw13.TableFind'. -/
def tableFindCard : Claim7 := { stood := { row := tableFindRow, standIns := [], harness := (true, "ff4c49680a61dd2af94364c0079c06d196aca76e6d4024b131ffb8b04891eeae"), looks := false }, kinds := [], alts := [], laidByText := true, laidKinds := [.widerDeep], laidTests := true, laidLooks := .later }
def TableFindCardSaid : Prop := Claim7.holds Tryd.pinned (.plain (OpenSpec.ofChange tableFindSpec)) tableFindCard

/-- THE TIED CARD OF 'demesnelaw13.TableMore'. -/
def tableMoreCard : Claim7 := { stood := { row := tableMoreRow, standIns := [], harness := (true, "ff4c49680a61dd2af94364c0079c06d196aca76e6d4024b131ffb8b04891eeae"), looks := false }, kinds := [], alts := [], laidByText := true, laidKinds := [.widerDeep], laidTests := true, laidLooks := .later }
def TableMoreCardSaid : Prop := Claim7.holds Tryd.pinned (.plain (OpenSpec.ofChange tableMoreSpec)) tableMoreCard

/-- THE SECOND FORM's CARD OF 'demesnelaw10.SizeBare'. -/
def sizeBareUptoCard : Claim7 := { stood := { row := sizeBareUptoRow, standIns := [], harness := (true, "ff4c49680a61dd2af94364c0079c06d196aca76e6d4024b131ffb8b04891eeae"), looks := false }, kinds := [], alts := [], laidByText := true, laidKinds := [.widerDeep], laidTests := true, laidLooks := .later }
def SizeBareUptoCardSaid : Prop := Claim7.holds Tryd.pinned (.plain (OpenSpec.upto sizeBareSpec)) sizeBareUptoCard

/-- THE SECOND FORM's CARD OF 'demesnelaw13.TableFind'. -/
def tableFindUptoCard : Claim7 := { stood := { row := tableFindUptoRow, standIns := [], harness := (true, "ff4c49680a61dd2af94364c0079c06d196aca76e6d4024b131ffb8b04891eeae"), looks := false }, kinds := [], alts := [], laidByText := true, laidKinds := [.widerDeep], laidTests := true, laidLooks := .later }
def TableFindUptoCardSaid : Prop := Claim7.holds Tryd.pinned (.plain (OpenSpec.upto tableFindSpec)) tableFindUptoCard

/-- THE SECOND FORM's CARD OF 'demesnelaw13.TableMore'. -/
def tableMoreUptoCard : Claim7 := { stood := { row := tableMoreUptoRow, standIns := [], harness := (true, "ff4c49680a61dd2af94364c0079c06d196aca76e6d4024b131ffb8b04891eeae"), looks := false }, kinds := [], alts := [], laidByText := true, laidKinds := [.widerDeep], laidTests := true, laidLooks := .later }
def TableMoreUptoCardSaid : Prop := Claim7.holds Tryd.pinned (.plain (OpenSpec.upto tableMoreSpec)) tableMoreUptoCard
end Rows
end Go.Proofs.YtofmlhpcobjfcaaDoor
