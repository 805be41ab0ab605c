/-
  DERIVED. GIVEN WITH THE SEED: THE CARDS: each row of YtibdalkdgjghoaaGreatDoorRows.lean that lists a variable, with what it lists TIED to the program's text (the seventh form; the later family's looks); each row that meets fmt, with fmt's text TOLD by the authors' own Lean function (tested against real Go, not proved from fmt's source: count such statements apart). THE CARD IS WHAT COUNTS. Prove the row's statement (the work); the ties are given (YtibdalkdgjghoaaGreatDoorTie.lean); close each card by the builder's one call (the guide's Derived/Test/ToyasCard.lean, 'card_holds'). Laid BY PROGRAM, IN A SANDBOX (cutbox-door.mjs). By AI agents, Wed Nov 11 2026. No macro, syntax, notation, axiom, sorry.
-/
import Derived.Test.YtibdalkdgjghoaaGreatDoorRows
import GoSem.ClaimSeven
namespace Go.Proofs.YtibdalkdgjghoaaGreatDoor
namespace Rows

/-- THE TIED CARD OF 'demesnelaw13.TableCheck'. -/
def tableCheckCard : Claim7 := { stood := { row := tableCheckRow, standIns := [], harness := (true, "83b03c8ce58f1e9653fa83d89a2c8e8e470565a59beab9edb806ac5c8053d8f4"), looks := false }, kinds := [], alts := [], laidByText := true, laidKinds := [.widerDeep], laidTests := true, laidLooks := .later }
def TableCheckCardSaid : Prop := Claim7.holds Tryz.pinned (.plain (OpenSpec.ofChange tableCheckSpec)) tableCheckCard

/-- THE TIED CARD OF 'demesnelaw20.FitCallee'. -/
def fitCalleeCard : Claim7 := { stood := { row := fitCalleeRow, standIns := [], harness := (true, "83b03c8ce58f1e9653fa83d89a2c8e8e470565a59beab9edb806ac5c8053d8f4"), looks := false }, kinds := [], alts := [], laidByText := true, laidKinds := [.widerDeep], laidTests := true, laidLooks := .later }
def FitCalleeCardSaid : Prop := Claim7.holds Tryz.pinned (.plain (OpenSpec.ofChange fitCalleeSpec)) fitCalleeCard

/-- THE TIED CARD OF 'demesnelaw20.FitStmt'. -/
def fitStmtCard : Claim7 := { stood := { row := fitStmtRow, standIns := [], harness := (true, "83b03c8ce58f1e9653fa83d89a2c8e8e470565a59beab9edb806ac5c8053d8f4"), looks := false }, kinds := [], alts := [], laidByText := true, laidKinds := [.widerDeep], laidTests := true, laidLooks := .later }
def FitStmtCardSaid : Prop := Claim7.holds Tryz.pinned (.plain (OpenSpec.ofChange fitStmtSpec)) fitStmtCard

/-- THE TIED CARD OF 'demesnelaw20.FitOnly'. -/
def fitOnlyCard : Claim7 := { stood := { row := fitOnlyRow, standIns := [], harness := (true, "83b03c8ce58f1e9653fa83d89a2c8e8e470565a59beab9edb806ac5c8053d8f4"), looks := false }, kinds := [], alts := [], laidByText := true, laidKinds := [.widerDeep], laidTests := true, laidLooks := .later }
def FitOnlyCardSaid : Prop := Claim7.holds Tryz.pinned (.plain (OpenSpec.ofChange fitOnlySpec)) fitOnlyCard

/-- THE TIED CARD OF 'demesnelaw21.WholeCheck'. -/
def wholeCheckCard : Claim7 := { stood := { row := wholeCheckRow, standIns := [], harness := (true, "83b03c8ce58f1e9653fa83d89a2c8e8e470565a59beab9edb806ac5c8053d8f4"), looks := false }, kinds := [], alts := [], laidByText := true, laidKinds := [.widerDeep], laidTests := true, laidLooks := .later }
def WholeCheckCardSaid : Prop := Claim7.holds Tryz.pinned (.plain (OpenSpec.ofChange wholeCheckSpec)) wholeCheckCard

/-- THE TIED CARD OF 'demesnelaw21.WholeCalls'. -/
def wholeCallsCard : Claim7 := { stood := { row := wholeCallsRow, standIns := [], harness := (true, "83b03c8ce58f1e9653fa83d89a2c8e8e470565a59beab9edb806ac5c8053d8f4"), looks := false }, kinds := [], alts := [], laidByText := true, laidKinds := [.widerDeep], laidTests := true, laidLooks := .later }
def WholeCallsCardSaid : Prop := Claim7.holds Tryz.pinned (.plain (OpenSpec.ofChange wholeCallsSpec)) wholeCallsCard

/-- THE TIED CARD OF 'demesnelaw21.WholeMore'. -/
def wholeMoreCard : Claim7 := { stood := { row := wholeMoreRow, standIns := [], harness := (true, "83b03c8ce58f1e9653fa83d89a2c8e8e470565a59beab9edb806ac5c8053d8f4"), looks := false }, kinds := [], alts := [], laidByText := true, laidKinds := [.widerDeep], laidTests := true, laidLooks := .later }
def WholeMoreCardSaid : Prop := Claim7.holds Tryz.pinned (.plain (OpenSpec.ofChange wholeMoreSpec)) wholeMoreCard

/-- THE SECOND FORM's CARD OF 'demesnelaw13.TableCheck'. -/
def tableCheckUptoCard : Claim7 := { stood := { row := tableCheckUptoRow, standIns := [], harness := (true, "83b03c8ce58f1e9653fa83d89a2c8e8e470565a59beab9edb806ac5c8053d8f4"), looks := false }, kinds := [], alts := [], laidByText := true, laidKinds := [.widerDeep], laidTests := true, laidLooks := .later }
def TableCheckUptoCardSaid : Prop := Claim7.holds Tryz.pinned (.plain (OpenSpec.upto tableCheckSpec)) tableCheckUptoCard

/-- THE SECOND FORM's CARD OF 'demesnelaw20.FitCallee'. -/
def fitCalleeUptoCard : Claim7 := { stood := { row := fitCalleeUptoRow, standIns := [], harness := (true, "83b03c8ce58f1e9653fa83d89a2c8e8e470565a59beab9edb806ac5c8053d8f4"), looks := false }, kinds := [], alts := [], laidByText := true, laidKinds := [.widerDeep], laidTests := true, laidLooks := .later }
def FitCalleeUptoCardSaid : Prop := Claim7.holds Tryz.pinned (.plain (OpenSpec.upto fitCalleeSpec)) fitCalleeUptoCard

/-- THE SECOND FORM's CARD OF 'demesnelaw20.FitStmt'. -/
def fitStmtUptoCard : Claim7 := { stood := { row := fitStmtUptoRow, standIns := [], harness := (true, "83b03c8ce58f1e9653fa83d89a2c8e8e470565a59beab9edb806ac5c8053d8f4"), looks := false }, kinds := [], alts := [], laidByText := true, laidKinds := [.widerDeep], laidTests := true, laidLooks := .later }
def FitStmtUptoCardSaid : Prop := Claim7.holds Tryz.pinned (.plain (OpenSpec.upto fitStmtSpec)) fitStmtUptoCard

/-- THE SECOND FORM's CARD OF 'demesnelaw20.FitOnly'. -/
def fitOnlyUptoCard : Claim7 := { stood := { row := fitOnlyUptoRow, standIns := [], harness := (true, "83b03c8ce58f1e9653fa83d89a2c8e8e470565a59beab9edb806ac5c8053d8f4"), looks := false }, kinds := [], alts := [], laidByText := true, laidKinds := [.widerDeep], laidTests := true, laidLooks := .later }
def FitOnlyUptoCardSaid : Prop := Claim7.holds Tryz.pinned (.plain (OpenSpec.upto fitOnlySpec)) fitOnlyUptoCard

/-- THE SECOND FORM's CARD OF 'demesnelaw21.WholeCheck'. -/
def wholeCheckUptoCard : Claim7 := { stood := { row := wholeCheckUptoRow, standIns := [], harness := (true, "83b03c8ce58f1e9653fa83d89a2c8e8e470565a59beab9edb806ac5c8053d8f4"), looks := false }, kinds := [], alts := [], laidByText := true, laidKinds := [.widerDeep], laidTests := true, laidLooks := .later }
def WholeCheckUptoCardSaid : Prop := Claim7.holds Tryz.pinned (.plain (OpenSpec.upto wholeCheckSpec)) wholeCheckUptoCard

/-- THE SECOND FORM's CARD OF 'demesnelaw21.WholeCalls'. -/
def wholeCallsUptoCard : Claim7 := { stood := { row := wholeCallsUptoRow, standIns := [], harness := (true, "83b03c8ce58f1e9653fa83d89a2c8e8e470565a59beab9edb806ac5c8053d8f4"), looks := false }, kinds := [], alts := [], laidByText := true, laidKinds := [.widerDeep], laidTests := true, laidLooks := .later }
def WholeCallsUptoCardSaid : Prop := Claim7.holds Tryz.pinned (.plain (OpenSpec.upto wholeCallsSpec)) wholeCallsUptoCard

/-- THE SECOND FORM's CARD OF 'demesnelaw21.WholeMore'. -/
def wholeMoreUptoCard : Claim7 := { stood := { row := wholeMoreUptoRow, standIns := [], harness := (true, "83b03c8ce58f1e9653fa83d89a2c8e8e470565a59beab9edb806ac5c8053d8f4"), looks := false }, kinds := [], alts := [], laidByText := true, laidKinds := [.widerDeep], laidTests := true, laidLooks := .later }
def WholeMoreUptoCardSaid : Prop := Claim7.holds Tryz.pinned (.plain (OpenSpec.upto wholeMoreSpec)) wholeMoreUptoCard
end Rows
end Go.Proofs.YtibdalkdgjghoaaGreatDoor
