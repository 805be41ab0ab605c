/-
  NARROWER THAN 'FOR EVERY INPUT', by the rows' own cells (each row's printed sentence says how): SizeBare: loops, laid · TableFind: loops, laid · TableMore: loops, laid.
  DERIVED. THE GIVEN ROWS OF THIS SEAT. 3 by the template 'for every input the law returns true; each argument reads behind the call as it read before'; 0 by the template 'total and deterministic' (their statements: YtofmlhpcobjfcaaDoorTotals.lean).
  GIVEN WITH THE SEED: the statements are not yours to turn. If you find one false, say at which input.
  Laid BY PROGRAM, IN A SANDBOX (cutbox-rows.mjs): the forced cells as the released guide's own fill.sh prints them over the translation a28ef01aea184d8a… (all of the seat's roots in one cut). By AI agents, Wed Nov 11 2026. No macro, syntax, notation, axiom, sorry.
-/
import Derived.Test.YtofmlhpcobjfcaaDoorChecked
import GoSem.Claim
import GoSem.ClaimJoined
import GoSem.ClaimMapViews
import Derived.JoinedTies
import Derived.KernelRfl
namespace Go.Proofs.YtofmlhpcobjfcaaDoor
/- THE CELL 'sum', in the pinned program and in every row, IS THE sha256 OF THE DUMP (.gsa) THAT YtofmlhpcobjfcaaDoorProg.lean LOADS. Nothing in Lean hashes anything: it is a label: what it is worth is what the hold of that sum in a sandbox is worth. -/
noncomputable def Tryd.pinned : Pinned := { name := "ytofmlhpcobjfcaadoor", sum := "a28ef01aea184d8af9549d99d18f25449b6084a63cedae09a65b4b24f9a0ea73", checked := Tryd.checked }
namespace Rows
def none {H : Type} : Left H := { results := [], args := [] }

/- WHAT THE LISTED PACKAGE-LEVEL VARIABLES READ AS WHEN THE CALL BEGINS. Each datum BY PROGRAM (the guide's laid-datum.mjs) off the statement by which the dump's own 'gosem.cut.vars' lays the variable. In a bare row this is a premise. The card (YtofmlhpcobjfcaaDoorCards.lean) ties it to the program's text. -/
def laid_demesne_word_words {H : Type} : DataW H := .agg [.lit (.string [99, 108, 97, 115, 115]), .lit (.string [101, 120, 116, 101, 110, 100, 115]), .lit (.string [114, 101, 112]), .lit (.string [112, 101, 101, 114]), .lit (.string [119, 111, 114, 108, 100]), .lit (.string [97, 110, 121]), .lit (.string [117, 110, 105, 113, 117, 101]), .lit (.string [112, 117, 114, 101]), .lit (.string [118, 111, 105, 100]), .lit (.string [105, 110, 116]), .lit (.string [105, 102]), .lit (.string [101, 108, 115, 101]), .lit (.string [119, 104, 105, 108, 101]), .lit (.string [114, 101, 116, 117, 114, 110]), .lit (.string [110, 101, 119]), .lit (.string [109, 111, 118, 101]), .lit (.string [100, 101, 108, 101, 116, 101]), .lit (.string [116, 104, 105, 115]), .lit (.string [110, 117, 108, 108]), .lit (.string [105, 110, 112, 117, 116]), .lit (.string [110, 105, 108]), .lit (.string [115, 97, 109, 101]), .lit (.string [99, 97, 115, 116])]

/-- 'demesnelaw10.SizeBare': WHATEVER THE INPUT: true; the input reads as it did. -/
def sizeBareSpec : ChangeSpec := { name := "sizeBare", fn := fun _ => fun
  | [d] => { results := [.lit (.bool true)], args := [d] }
  | _ => none }
def sizeBareRow : OpenClaim := { program := "ytofmlhpcobjfcaadoor", sum := "a28ef01aea184d8af9549d99d18f25449b6084a63cedae09a65b4b24f9a0ea73", func := "demesne/demesnelaw10.SizeBare", spec := "sizeBare", unfollowed := true, recurses := true, named := ["demesne/word.words"], loops := true, apart := false, laid := [("demesne/word.words", laid_demesne_word_words)] }
def SizeBareSaid : Prop := sizeBareRow.holds Tryd.pinned (OpenSpec.ofChange sizeBareSpec)

/-- ITS FALSE NEIGHBOUR: 'it returns false'. Refute it at one input. -/
def sizeBareWrong : ChangeSpec := { name := "sizeBare", fn := fun _ => fun
  | [d] => { results := [.lit (.bool false)], args := [d] }
  | _ => none }
def SizeBareWrongFalsely : Prop := sizeBareRow.holds Tryd.pinned (OpenSpec.ofChange sizeBareWrong)

/-- 'demesnelaw13.TableFind': WHATEVER THE INPUT: true; the input reads as it did. -/
def tableFindSpec : ChangeSpec := { name := "tableFind", fn := fun _ => fun
  | [d1, d2] => { results := [.lit (.bool true)], args := [d1, d2] }
  | _ => none }
def tableFindRow : OpenClaim := { program := "ytofmlhpcobjfcaadoor", sum := "a28ef01aea184d8af9549d99d18f25449b6084a63cedae09a65b4b24f9a0ea73", func := "demesne/demesnelaw13.TableFind", spec := "tableFind", unfollowed := true, recurses := true, named := ["demesne/word.words"], loops := true, apart := false, laid := [("demesne/word.words", laid_demesne_word_words)] }
def TableFindSaid : Prop := tableFindRow.holds Tryd.pinned (OpenSpec.ofChange tableFindSpec)

/-- ITS FALSE NEIGHBOUR: 'it returns false'. Refute it at one input. -/
def tableFindWrong : ChangeSpec := { name := "tableFind", fn := fun _ => fun
  | [d1, d2] => { results := [.lit (.bool false)], args := [d1, d2] }
  | _ => none }
def TableFindWrongFalsely : Prop := tableFindRow.holds Tryd.pinned (OpenSpec.ofChange tableFindWrong)

/-- 'demesnelaw13.TableMore': WHATEVER THE INPUT: true; the input reads as it did. -/
def tableMoreSpec : ChangeSpec := { name := "tableMore", fn := fun _ => fun
  | [d1, d2, d3] => { results := [.lit (.bool true)], args := [d1, d2, d3] }
  | _ => none }
def tableMoreRow : OpenClaim := { program := "ytofmlhpcobjfcaadoor", sum := "a28ef01aea184d8af9549d99d18f25449b6084a63cedae09a65b4b24f9a0ea73", func := "demesne/demesnelaw13.TableMore", spec := "tableMore", unfollowed := true, recurses := true, named := ["demesne/word.words"], loops := true, apart := false, laid := [("demesne/word.words", laid_demesne_word_words)] }
def TableMoreSaid : Prop := tableMoreRow.holds Tryd.pinned (OpenSpec.ofChange tableMoreSpec)

/-- ITS FALSE NEIGHBOUR: 'it returns false'. Refute it at one input. -/
def tableMoreWrong : ChangeSpec := { name := "tableMore", fn := fun _ => fun
  | [d1, d2, d3] => { results := [.lit (.bool false)], args := [d1, d2, d3] }
  | _ => none }
def TableMoreWrongFalsely : Prop := tableMoreRow.holds Tryd.pinned (OpenSpec.ofChange tableMoreWrong)

/- THE SECOND FORM. 'bulk': how many values and letters a reading holds, each counted each time it is reached (what is shared counts as often as it is met; a slice's spare places count too). A statement '..UptoSaid' is the law's where the arguments, and the package variables that the reading takes, are together of bulk at most 1048576: NARROWER than '..Said'. Prove '..Said' where nothing that the law and all that it calls make is longer than what came in: it says more and counts as full. Else prove '..UptoSaid'. A law counts once. -/
mutual
def uptoBulk {H : Type} : DataW H → Nat
  | .lit (.string bytes) => bytes.length + 1
  | .lit _ => 1
  | .nil => 1
  | .ptr d => uptoBulk d + 1
  | .slice elems spare => uptoBulkAll elems + uptoBulkAll spare + 1
  | .agg parts => uptoBulkAll parts + 1
  | .iface _ d => uptoBulk d + 1
  | .map entries => uptoBulkEntries entries + 1
  | .held _ => 1
def uptoBulkAll {H : Type} : List (DataW H) → Nat
  | [] => 0
  | d :: r => uptoBulk d + uptoBulkAll r
def uptoBulkEntries {H : Type} : List (Lit × DataW H) → Nat
  | [] => 0
  | x :: r => uptoBulkEntry x + uptoBulkEntries r
def uptoBulkEntry {H : Type} : Lit × DataW H → Nat
  | (.string bytes, d) => bytes.length + uptoBulk d + 1
  | (_, d) => uptoBulk d + 1
 end
def uptoSmall : (H : Type) → List (DataW H) → Bool := fun _ ds => decide (uptoBulkAll ds ≤ 1048576)
def OpenSpec.upto (s : _root_.Go.ChangeSpec) : _root_.Go.OpenSpec := { _root_.Go.OpenSpec.ofChange s with cond := some uptoSmall }

/-- 'demesnelaw10.SizeBare', WHERE WHAT IT READS IS OF BULK AT MOST 1048576: true; the input reads as it did. -/
def sizeBareUptoRow : OpenClaim := { program := "ytofmlhpcobjfcaadoor", sum := "a28ef01aea184d8af9549d99d18f25449b6084a63cedae09a65b4b24f9a0ea73", func := "demesne/demesnelaw10.SizeBare", spec := "sizeBare", unfollowed := true, recurses := true, named := ["demesne/word.words"], loops := true, apart := false, laid := [("demesne/word.words", laid_demesne_word_words)], narrowed := true }
def SizeBareUptoSaid : Prop := sizeBareUptoRow.holds Tryd.pinned (OpenSpec.upto sizeBareSpec)

/-- 'demesnelaw13.TableFind', WHERE WHAT IT READS IS OF BULK AT MOST 1048576: true; the input reads as it did. -/
def tableFindUptoRow : OpenClaim := { program := "ytofmlhpcobjfcaadoor", sum := "a28ef01aea184d8af9549d99d18f25449b6084a63cedae09a65b4b24f9a0ea73", func := "demesne/demesnelaw13.TableFind", spec := "tableFind", unfollowed := true, recurses := true, named := ["demesne/word.words"], loops := true, apart := false, laid := [("demesne/word.words", laid_demesne_word_words)], narrowed := true }
def TableFindUptoSaid : Prop := tableFindUptoRow.holds Tryd.pinned (OpenSpec.upto tableFindSpec)

/-- 'demesnelaw13.TableMore', WHERE WHAT IT READS IS OF BULK AT MOST 1048576: true; the input reads as it did. -/
def tableMoreUptoRow : OpenClaim := { program := "ytofmlhpcobjfcaadoor", sum := "a28ef01aea184d8af9549d99d18f25449b6084a63cedae09a65b4b24f9a0ea73", func := "demesne/demesnelaw13.TableMore", spec := "tableMore", unfollowed := true, recurses := true, named := ["demesne/word.words"], loops := true, apart := false, laid := [("demesne/word.words", laid_demesne_word_words)], narrowed := true }
def TableMoreUptoSaid : Prop := tableMoreUptoRow.holds Tryd.pinned (OpenSpec.upto tableMoreSpec)

end Rows
end Go.Proofs.YtofmlhpcobjfcaaDoor
