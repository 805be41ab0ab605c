/-
  NARROWER THAN 'FOR EVERY INPUT', by the rows' own cells (each row's printed sentence says how): TableCheck: loops, laid · FitCallee: loops, laid · FitStmt: loops, laid · FitOnly: loops, laid · WholeCheck: loops, laid · WholeCalls: loops, laid · WholeMore: loops, laid.
  DERIVED. THE GIVEN ROWS OF THIS SEAT. 7 by the template 'for every input the law returns true; each argument reads behind the call as it read before'; 0 by the template 'total and deterministic' (their statements: YtibdalkdgjghoaaGreatDoorTotals.lean).
  GIVEN WITH THE SEED: the statements are not yours to turn. If you find one false, say at which input.
  Laid BY PROGRAM, IN A SANDBOX (cutbox-rows.mjs): the forced cells as the released guide's own fill.sh prints them over the translation b9c7e4cfc507a1a4… (all of the seat's roots in one cut). By AI agents, Wed Nov 11 2026. No macro, syntax, notation, axiom, sorry.
-/
import Derived.Test.YtibdalkdgjghoaaGreatDoorChecked
import GoSem.Claim
import GoSem.ClaimJoined
import GoSem.ClaimMapViews
import Derived.JoinedTies
import Derived.KernelRfl
namespace Go.Proofs.YtibdalkdgjghoaaGreatDoor
/- THE CELL 'sum', in the pinned program and in every row, IS THE sha256 OF THE DUMP (.gsa) THAT YtibdalkdgjghoaaGreatDoorProg.lean LOADS. Nothing in Lean hashes anything: it is a label: what it is worth is what the hold of that sum in a sandbox is worth. -/
noncomputable def Tryz.pinned : Pinned := { name := "ytibdalkdgjghoaagreatdoor", sum := "b9c7e4cfc507a1a42879a7532c8d33ca64a1ffff697cb3e7ae70f54ffa314a27", checked := Tryz.checked }
namespace Rows
def none {H : Type} : Left H := { results := [], args := [] }

/- WHAT THE LISTED PACKAGE-LEVEL VARIABLES READ AS WHEN THE CALL BEGINS. Each datum BY PROGRAM (the guide's laid-datum.mjs) off the statement by which the dump's own 'gosem.cut.vars' lays the variable. In a bare row this is a premise. The card (YtibdalkdgjghoaaGreatDoorCards.lean) ties it to the program's text. -/
def laid_demesne_word_words {H : Type} : DataW H := .agg [.lit (.string [99, 108, 97, 115, 115]), .lit (.string [101, 120, 116, 101, 110, 100, 115]), .lit (.string [114, 101, 112]), .lit (.string [112, 101, 101, 114]), .lit (.string [119, 111, 114, 108, 100]), .lit (.string [97, 110, 121]), .lit (.string [117, 110, 105, 113, 117, 101]), .lit (.string [112, 117, 114, 101]), .lit (.string [118, 111, 105, 100]), .lit (.string [105, 110, 116]), .lit (.string [105, 102]), .lit (.string [101, 108, 115, 101]), .lit (.string [119, 104, 105, 108, 101]), .lit (.string [114, 101, 116, 117, 114, 110]), .lit (.string [110, 101, 119]), .lit (.string [109, 111, 118, 101]), .lit (.string [100, 101, 108, 101, 116, 101]), .lit (.string [116, 104, 105, 115]), .lit (.string [110, 117, 108, 108]), .lit (.string [105, 110, 112, 117, 116]), .lit (.string [110, 105, 108]), .lit (.string [115, 97, 109, 101]), .lit (.string [99, 97, 115, 116])]

/-- 'demesnelaw13.TableCheck': WHATEVER THE INPUT: true; the input reads as it did. -/
def tableCheckSpec : ChangeSpec := { name := "tableCheck", fn := fun _ => fun
  | [d] => { results := [.lit (.bool true)], args := [d] }
  | _ => none }
def tableCheckRow : OpenClaim := { program := "ytibdalkdgjghoaagreatdoor", sum := "b9c7e4cfc507a1a42879a7532c8d33ca64a1ffff697cb3e7ae70f54ffa314a27", func := "demesne/demesnelaw13.TableCheck", spec := "tableCheck", unfollowed := true, recurses := true, named := ["demesne/word.words"], loops := true, apart := false, laid := [("demesne/word.words", laid_demesne_word_words)] }
def TableCheckSaid : Prop := tableCheckRow.holds Tryz.pinned (OpenSpec.ofChange tableCheckSpec)

/-- ITS FALSE NEIGHBOUR: 'it returns false'. Refute it at one input. -/
def tableCheckWrong : ChangeSpec := { name := "tableCheck", fn := fun _ => fun
  | [d] => { results := [.lit (.bool false)], args := [d] }
  | _ => none }
def TableCheckWrongFalsely : Prop := tableCheckRow.holds Tryz.pinned (OpenSpec.ofChange tableCheckWrong)

/-- 'demesnelaw20.FitCallee': WHATEVER THE INPUT: true; the input reads as it did. -/
def fitCalleeSpec : ChangeSpec := { name := "fitCallee", fn := fun _ => fun
  | [d1, d2, d3] => { results := [.lit (.bool true)], args := [d1, d2, d3] }
  | _ => none }
def fitCalleeRow : OpenClaim := { program := "ytibdalkdgjghoaagreatdoor", sum := "b9c7e4cfc507a1a42879a7532c8d33ca64a1ffff697cb3e7ae70f54ffa314a27", func := "demesne/demesnelaw20.FitCallee", spec := "fitCallee", unfollowed := true, recurses := true, named := ["demesne/word.words"], loops := true, apart := false, laid := [("demesne/word.words", laid_demesne_word_words)] }
def FitCalleeSaid : Prop := fitCalleeRow.holds Tryz.pinned (OpenSpec.ofChange fitCalleeSpec)

/-- ITS FALSE NEIGHBOUR: 'it returns false'. Refute it at one input. -/
def fitCalleeWrong : ChangeSpec := { name := "fitCallee", fn := fun _ => fun
  | [d1, d2, d3] => { results := [.lit (.bool false)], args := [d1, d2, d3] }
  | _ => none }
def FitCalleeWrongFalsely : Prop := fitCalleeRow.holds Tryz.pinned (OpenSpec.ofChange fitCalleeWrong)

/-- 'demesnelaw20.FitStmt': WHATEVER THE INPUT: true; the input reads as it did. -/
def fitStmtSpec : ChangeSpec := { name := "fitStmt", fn := fun _ => fun
  | [d1, d2, d3] => { results := [.lit (.bool true)], args := [d1, d2, d3] }
  | _ => none }
def fitStmtRow : OpenClaim := { program := "ytibdalkdgjghoaagreatdoor", sum := "b9c7e4cfc507a1a42879a7532c8d33ca64a1ffff697cb3e7ae70f54ffa314a27", func := "demesne/demesnelaw20.FitStmt", spec := "fitStmt", unfollowed := true, recurses := true, named := ["demesne/word.words"], loops := true, apart := false, laid := [("demesne/word.words", laid_demesne_word_words)] }
def FitStmtSaid : Prop := fitStmtRow.holds Tryz.pinned (OpenSpec.ofChange fitStmtSpec)

/-- ITS FALSE NEIGHBOUR: 'it returns false'. Refute it at one input. -/
def fitStmtWrong : ChangeSpec := { name := "fitStmt", fn := fun _ => fun
  | [d1, d2, d3] => { results := [.lit (.bool false)], args := [d1, d2, d3] }
  | _ => none }
def FitStmtWrongFalsely : Prop := fitStmtRow.holds Tryz.pinned (OpenSpec.ofChange fitStmtWrong)

/-- 'demesnelaw20.FitOnly': WHATEVER THE INPUT: true; the input reads as it did. -/
def fitOnlySpec : ChangeSpec := { name := "fitOnly", fn := fun _ => fun
  | [d1, d2, d3] => { results := [.lit (.bool true)], args := [d1, d2, d3] }
  | _ => none }
def fitOnlyRow : OpenClaim := { program := "ytibdalkdgjghoaagreatdoor", sum := "b9c7e4cfc507a1a42879a7532c8d33ca64a1ffff697cb3e7ae70f54ffa314a27", func := "demesne/demesnelaw20.FitOnly", spec := "fitOnly", unfollowed := true, recurses := true, named := ["demesne/word.words"], loops := true, apart := false, laid := [("demesne/word.words", laid_demesne_word_words)] }
def FitOnlySaid : Prop := fitOnlyRow.holds Tryz.pinned (OpenSpec.ofChange fitOnlySpec)

/-- ITS FALSE NEIGHBOUR: 'it returns false'. Refute it at one input. -/
def fitOnlyWrong : ChangeSpec := { name := "fitOnly", fn := fun _ => fun
  | [d1, d2, d3] => { results := [.lit (.bool false)], args := [d1, d2, d3] }
  | _ => none }
def FitOnlyWrongFalsely : Prop := fitOnlyRow.holds Tryz.pinned (OpenSpec.ofChange fitOnlyWrong)

/-- 'demesnelaw21.WholeCheck': WHATEVER THE INPUT: true; the input reads as it did. -/
def wholeCheckSpec : ChangeSpec := { name := "wholeCheck", fn := fun _ => fun
  | [d] => { results := [.lit (.bool true)], args := [d] }
  | _ => none }
def wholeCheckRow : OpenClaim := { program := "ytibdalkdgjghoaagreatdoor", sum := "b9c7e4cfc507a1a42879a7532c8d33ca64a1ffff697cb3e7ae70f54ffa314a27", func := "demesne/demesnelaw21.WholeCheck", spec := "wholeCheck", unfollowed := true, recurses := true, named := ["demesne/word.words"], loops := true, apart := false, laid := [("demesne/word.words", laid_demesne_word_words)] }
def WholeCheckSaid : Prop := wholeCheckRow.holds Tryz.pinned (OpenSpec.ofChange wholeCheckSpec)

/-- ITS FALSE NEIGHBOUR: 'it returns false'. Refute it at one input. -/
def wholeCheckWrong : ChangeSpec := { name := "wholeCheck", fn := fun _ => fun
  | [d] => { results := [.lit (.bool false)], args := [d] }
  | _ => none }
def WholeCheckWrongFalsely : Prop := wholeCheckRow.holds Tryz.pinned (OpenSpec.ofChange wholeCheckWrong)

/-- 'demesnelaw21.WholeCalls': WHATEVER THE INPUT: true; the input reads as it did. -/
def wholeCallsSpec : ChangeSpec := { name := "wholeCalls", fn := fun _ => fun
  | [d] => { results := [.lit (.bool true)], args := [d] }
  | _ => none }
def wholeCallsRow : OpenClaim := { program := "ytibdalkdgjghoaagreatdoor", sum := "b9c7e4cfc507a1a42879a7532c8d33ca64a1ffff697cb3e7ae70f54ffa314a27", func := "demesne/demesnelaw21.WholeCalls", spec := "wholeCalls", unfollowed := true, recurses := true, named := ["demesne/word.words"], loops := true, apart := false, laid := [("demesne/word.words", laid_demesne_word_words)] }
def WholeCallsSaid : Prop := wholeCallsRow.holds Tryz.pinned (OpenSpec.ofChange wholeCallsSpec)

/-- ITS FALSE NEIGHBOUR: 'it returns false'. Refute it at one input. -/
def wholeCallsWrong : ChangeSpec := { name := "wholeCalls", fn := fun _ => fun
  | [d] => { results := [.lit (.bool false)], args := [d] }
  | _ => none }
def WholeCallsWrongFalsely : Prop := wholeCallsRow.holds Tryz.pinned (OpenSpec.ofChange wholeCallsWrong)

/-- 'demesnelaw21.WholeMore': WHATEVER THE INPUT: true; the input reads as it did. -/
def wholeMoreSpec : ChangeSpec := { name := "wholeMore", fn := fun _ => fun
  | [d1, d2] => { results := [.lit (.bool true)], args := [d1, d2] }
  | _ => none }
def wholeMoreRow : OpenClaim := { program := "ytibdalkdgjghoaagreatdoor", sum := "b9c7e4cfc507a1a42879a7532c8d33ca64a1ffff697cb3e7ae70f54ffa314a27", func := "demesne/demesnelaw21.WholeMore", spec := "wholeMore", unfollowed := true, recurses := true, named := ["demesne/word.words"], loops := true, apart := false, laid := [("demesne/word.words", laid_demesne_word_words)] }
def WholeMoreSaid : Prop := wholeMoreRow.holds Tryz.pinned (OpenSpec.ofChange wholeMoreSpec)

/-- ITS FALSE NEIGHBOUR: 'it returns false'. Refute it at one input. -/
def wholeMoreWrong : ChangeSpec := { name := "wholeMore", fn := fun _ => fun
  | [d1, d2] => { results := [.lit (.bool false)], args := [d1, d2] }
  | _ => none }
def WholeMoreWrongFalsely : Prop := wholeMoreRow.holds Tryz.pinned (OpenSpec.ofChange wholeMoreWrong)

/- THE SECOND FORM. 'bulk': how many values and letters a reading holds, each counted each time it is reached (what is shared counts as often as it is met; a slice's spare places count too). A statement '..UptoSaid' is the law's where the arguments, and the package variables that the reading takes, are together of bulk at most 1048576: NARROWER than '..Said'. Prove '..Said' where nothing that the law and all that it calls make is longer than what came in: it says more and counts as full. Else prove '..UptoSaid'. A law counts once. -/
mutual
def uptoBulk {H : Type} : DataW H → Nat
  | .lit (.string bytes) => bytes.length + 1
  | .lit _ => 1
  | .nil => 1
  | .ptr d => uptoBulk d + 1
  | .slice elems spare => uptoBulkAll elems + uptoBulkAll spare + 1
  | .agg parts => uptoBulkAll parts + 1
  | .iface _ d => uptoBulk d + 1
  | .map entries => uptoBulkEntries entries + 1
  | .held _ => 1
def uptoBulkAll {H : Type} : List (DataW H) → Nat
  | [] => 0
  | d :: r => uptoBulk d + uptoBulkAll r
def uptoBulkEntries {H : Type} : List (Lit × DataW H) → Nat
  | [] => 0
  | x :: r => uptoBulkEntry x + uptoBulkEntries r
def uptoBulkEntry {H : Type} : Lit × DataW H → Nat
  | (.string bytes, d) => bytes.length + uptoBulk d + 1
  | (_, d) => uptoBulk d + 1
 end
def uptoSmall : (H : Type) → List (DataW H) → Bool := fun _ ds => decide (uptoBulkAll ds ≤ 1048576)
def OpenSpec.upto (s : _root_.Go.ChangeSpec) : _root_.Go.OpenSpec := { _root_.Go.OpenSpec.ofChange s with cond := some uptoSmall }

/-- 'demesnelaw13.TableCheck', WHERE WHAT IT READS IS OF BULK AT MOST 1048576: true; the input reads as it did. -/
def tableCheckUptoRow : OpenClaim := { program := "ytibdalkdgjghoaagreatdoor", sum := "b9c7e4cfc507a1a42879a7532c8d33ca64a1ffff697cb3e7ae70f54ffa314a27", func := "demesne/demesnelaw13.TableCheck", spec := "tableCheck", unfollowed := true, recurses := true, named := ["demesne/word.words"], loops := true, apart := false, laid := [("demesne/word.words", laid_demesne_word_words)], narrowed := true }
def TableCheckUptoSaid : Prop := tableCheckUptoRow.holds Tryz.pinned (OpenSpec.upto tableCheckSpec)

/-- 'demesnelaw20.FitCallee', WHERE WHAT IT READS IS OF BULK AT MOST 1048576: true; the input reads as it did. -/
def fitCalleeUptoRow : OpenClaim := { program := "ytibdalkdgjghoaagreatdoor", sum := "b9c7e4cfc507a1a42879a7532c8d33ca64a1ffff697cb3e7ae70f54ffa314a27", func := "demesne/demesnelaw20.FitCallee", spec := "fitCallee", unfollowed := true, recurses := true, named := ["demesne/word.words"], loops := true, apart := false, laid := [("demesne/word.words", laid_demesne_word_words)], narrowed := true }
def FitCalleeUptoSaid : Prop := fitCalleeUptoRow.holds Tryz.pinned (OpenSpec.upto fitCalleeSpec)

/-- 'demesnelaw20.FitStmt', WHERE WHAT IT READS IS OF BULK AT MOST 1048576: true; the input reads as it did. -/
def fitStmtUptoRow : OpenClaim := { program := "ytibdalkdgjghoaagreatdoor", sum := "b9c7e4cfc507a1a42879a7532c8d33ca64a1ffff697cb3e7ae70f54ffa314a27", func := "demesne/demesnelaw20.FitStmt", spec := "fitStmt", unfollowed := true, recurses := true, named := ["demesne/word.words"], loops := true, apart := false, laid := [("demesne/word.words", laid_demesne_word_words)], narrowed := true }
def FitStmtUptoSaid : Prop := fitStmtUptoRow.holds Tryz.pinned (OpenSpec.upto fitStmtSpec)

/-- 'demesnelaw20.FitOnly', WHERE WHAT IT READS IS OF BULK AT MOST 1048576: true; the input reads as it did. -/
def fitOnlyUptoRow : OpenClaim := { program := "ytibdalkdgjghoaagreatdoor", sum := "b9c7e4cfc507a1a42879a7532c8d33ca64a1ffff697cb3e7ae70f54ffa314a27", func := "demesne/demesnelaw20.FitOnly", spec := "fitOnly", unfollowed := true, recurses := true, named := ["demesne/word.words"], loops := true, apart := false, laid := [("demesne/word.words", laid_demesne_word_words)], narrowed := true }
def FitOnlyUptoSaid : Prop := fitOnlyUptoRow.holds Tryz.pinned (OpenSpec.upto fitOnlySpec)

/-- 'demesnelaw21.WholeCheck', WHERE WHAT IT READS IS OF BULK AT MOST 1048576: true; the input reads as it did. -/
def wholeCheckUptoRow : OpenClaim := { program := "ytibdalkdgjghoaagreatdoor", sum := "b9c7e4cfc507a1a42879a7532c8d33ca64a1ffff697cb3e7ae70f54ffa314a27", func := "demesne/demesnelaw21.WholeCheck", spec := "wholeCheck", unfollowed := true, recurses := true, named := ["demesne/word.words"], loops := true, apart := false, laid := [("demesne/word.words", laid_demesne_word_words)], narrowed := true }
def WholeCheckUptoSaid : Prop := wholeCheckUptoRow.holds Tryz.pinned (OpenSpec.upto wholeCheckSpec)

/-- 'demesnelaw21.WholeCalls', WHERE WHAT IT READS IS OF BULK AT MOST 1048576: true; the input reads as it did. -/
def wholeCallsUptoRow : OpenClaim := { program := "ytibdalkdgjghoaagreatdoor", sum := "b9c7e4cfc507a1a42879a7532c8d33ca64a1ffff697cb3e7ae70f54ffa314a27", func := "demesne/demesnelaw21.WholeCalls", spec := "wholeCalls", unfollowed := true, recurses := true, named := ["demesne/word.words"], loops := true, apart := false, laid := [("demesne/word.words", laid_demesne_word_words)], narrowed := true }
def WholeCallsUptoSaid : Prop := wholeCallsUptoRow.holds Tryz.pinned (OpenSpec.upto wholeCallsSpec)

/-- 'demesnelaw21.WholeMore', WHERE WHAT IT READS IS OF BULK AT MOST 1048576: true; the input reads as it did. -/
def wholeMoreUptoRow : OpenClaim := { program := "ytibdalkdgjghoaagreatdoor", sum := "b9c7e4cfc507a1a42879a7532c8d33ca64a1ffff697cb3e7ae70f54ffa314a27", func := "demesne/demesnelaw21.WholeMore", spec := "wholeMore", unfollowed := true, recurses := true, named := ["demesne/word.words"], loops := true, apart := false, laid := [("demesne/word.words", laid_demesne_word_words)], narrowed := true }
def WholeMoreUptoSaid : Prop := wholeMoreUptoRow.holds Tryz.pinned (OpenSpec.upto wholeMoreSpec)

end Rows
end Go.Proofs.YtibdalkdgjghoaaGreatDoor
