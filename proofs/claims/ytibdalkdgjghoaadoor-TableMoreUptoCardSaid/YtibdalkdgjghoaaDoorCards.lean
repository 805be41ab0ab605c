/-
  DERIVED. GIVEN WITH THE SEED: THE CARDS: each row of YtibdalkdgjghoaaDoorRows.lean that lists a variable, with what it lists TIED to the program's text (the seventh form; the later family's looks); each row that meets fmt, with fmt's text TOLD by the authors' own Lean function (tested against real Go, not proved from fmt's source: count such statements apart). THE CARD IS WHAT COUNTS. Prove the row's statement (the work); the ties are given (YtibdalkdgjghoaaDoorTie.lean); close each card by the builder's one call (the guide's Derived/Test/ToyasCard.lean, 'card_holds'). Laid BY PROGRAM, IN A SANDBOX (cutbox-door.mjs). By AI agents, Wed Nov 11 2026. No macro, syntax, notation, axiom, sorry.
-/
import Derived.Test.YtibdalkdgjghoaaDoorRows
import GoSem.ClaimSeven
namespace Go.Proofs.YtibdalkdgjghoaaDoor
namespace Rows

/-- THE TIED CARD OF 'demesnelaw13.TableMore'. -/
def tableMoreCard : Claim7 := { stood := { row := tableMoreRow, standIns := [], harness := (true, "cfa2729f11feef694f2be18f6d618368ffaf722bc0e8f4e402b2a008b4ad8c20"), looks := false }, kinds := [], alts := [], laidByText := true, laidKinds := [.widerDeep], laidTests := true, laidLooks := .later }
def TableMoreCardSaid : Prop := Claim7.holds Tryd.pinned (.plain (OpenSpec.ofChange tableMoreSpec)) tableMoreCard

/-- THE SECOND FORM's CARD OF 'demesnelaw13.TableMore'. -/
def tableMoreUptoCard : Claim7 := { stood := { row := tableMoreUptoRow, standIns := [], harness := (true, "cfa2729f11feef694f2be18f6d618368ffaf722bc0e8f4e402b2a008b4ad8c20"), looks := false }, kinds := [], alts := [], laidByText := true, laidKinds := [.widerDeep], laidTests := true, laidLooks := .later }
def TableMoreUptoCardSaid : Prop := Claim7.holds Tryd.pinned (.plain (OpenSpec.upto tableMoreSpec)) tableMoreUptoCard
end Rows
end Go.Proofs.YtibdalkdgjghoaaDoor
