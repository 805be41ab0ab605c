/-
  No cell of these rows narrows 'for every input' (looked for: loops, veiled, ifaces, maps, wideKeys, modest, calm, conditions, laid).
  DERIVED. THE GIVEN ROWS OF THIS SEAT. 6 by the template 'for every input the law returns true; each argument reads behind the call as it read before'; 0 by the template 'total and deterministic' (their statements: YtgjpbhgobjlneaaTotals.lean).
  GIVEN WITH THE SEED: the statements are not yours to turn. If you find one false, say at which input.
  Laid BY PROGRAM, IN A SANDBOX (cutbox-rows.mjs): the forced cells as the released guide's own fill.sh prints them over the translation 5ef4338f4bf81401… (all of the seat's roots in one cut). By AI agents, Wed Nov 11 2026. No macro, syntax, notation, axiom, sorry.
-/
import Derived.Test.YtgjpbhgobjlneaaChecked
import GoSem.Claim
import GoSem.ClaimJoined
import GoSem.ClaimMapViews
import Derived.JoinedTies
import Derived.KernelRfl
namespace Go.Proofs.Ytgjpbhgobjlneaa
/- THE CELL 'sum', in the pinned program and in every row, IS THE sha256 OF THE DUMP (.gsa) THAT YtgjpbhgobjlneaaProg.lean LOADS. Nothing in Lean hashes anything: it is a label: what it is worth is what the hold of that sum in a sandbox is worth. -/
noncomputable def Try.pinned : Pinned := { name := "ytgjpbhgobjlneaa", sum := "5ef4338f4bf81401e8a40b4884c898c89a5351c3390cc5585ffb875acb5be362", checked := Try.checked }
namespace Rows
def none {H : Type} : Left H := { results := [], args := [] }

/-- 'demesnelaw44.IsoMatch': WHATEVER THE INPUT: true; the input reads as it did. -/
def isoMatchSpec : ChangeSpec := { name := "isoMatch", fn := fun _ => fun
  | [d1, d2] => { results := [.lit (.bool true)], args := [d1, d2] }
  | _ => none }
def isoMatchRow : OpenClaim := { program := "ytgjpbhgobjlneaa", sum := "5ef4338f4bf81401e8a40b4884c898c89a5351c3390cc5585ffb875acb5be362", func := "demesne/demesnelaw44.IsoMatch", spec := "isoMatch", unfollowed := true, recurses := true, apart := false }
def IsoMatchSaid : Prop := isoMatchRow.holds Try.pinned (OpenSpec.ofChange isoMatchSpec)

/-- ITS FALSE NEIGHBOUR: 'it returns false'. Refute it at one input. -/
def isoMatchWrong : ChangeSpec := { name := "isoMatch", fn := fun _ => fun
  | [d1, d2] => { results := [.lit (.bool false)], args := [d1, d2] }
  | _ => none }
def IsoMatchWrongFalsely : Prop := isoMatchRow.holds Try.pinned (OpenSpec.ofChange isoMatchWrong)

/-- 'demesnelaw44.IsoBack': WHATEVER THE INPUT: true; the input reads as it did. -/
def isoBackSpec : ChangeSpec := { name := "isoBack", fn := fun _ => fun
  | [d1, d2] => { results := [.lit (.bool true)], args := [d1, d2] }
  | _ => none }
def isoBackRow : OpenClaim := { program := "ytgjpbhgobjlneaa", sum := "5ef4338f4bf81401e8a40b4884c898c89a5351c3390cc5585ffb875acb5be362", func := "demesne/demesnelaw44.IsoBack", spec := "isoBack", unfollowed := true, recurses := true, apart := false }
def IsoBackSaid : Prop := isoBackRow.holds Try.pinned (OpenSpec.ofChange isoBackSpec)

/-- ITS FALSE NEIGHBOUR: 'it returns false'. Refute it at one input. -/
def isoBackWrong : ChangeSpec := { name := "isoBack", fn := fun _ => fun
  | [d1, d2] => { results := [.lit (.bool false)], args := [d1, d2] }
  | _ => none }
def IsoBackWrongFalsely : Prop := isoBackRow.holds Try.pinned (OpenSpec.ofChange isoBackWrong)

/-- 'demesnelaw45.PathReach': WHATEVER THE INPUT: true; the input reads as it did. -/
def pathReachSpec : ChangeSpec := { name := "pathReach", fn := fun _ => fun
  | [d1, d2] => { results := [.lit (.bool true)], args := [d1, d2] }
  | _ => none }
def pathReachRow : OpenClaim := { program := "ytgjpbhgobjlneaa", sum := "5ef4338f4bf81401e8a40b4884c898c89a5351c3390cc5585ffb875acb5be362", func := "demesne/demesnelaw45.PathReach", spec := "pathReach", unfollowed := true, recurses := true, apart := false }
def PathReachSaid : Prop := pathReachRow.holds Try.pinned (OpenSpec.ofChange pathReachSpec)

/-- ITS FALSE NEIGHBOUR: 'it returns false'. Refute it at one input. -/
def pathReachWrong : ChangeSpec := { name := "pathReach", fn := fun _ => fun
  | [d1, d2] => { results := [.lit (.bool false)], args := [d1, d2] }
  | _ => none }
def PathReachWrongFalsely : Prop := pathReachRow.holds Try.pinned (OpenSpec.ofChange pathReachWrong)

/-- 'demesnelaw45.PathWay': WHATEVER THE INPUT: true; the input reads as it did. -/
def pathWaySpec : ChangeSpec := { name := "pathWay", fn := fun _ => fun
  | [d1, d2, d3] => { results := [.lit (.bool true)], args := [d1, d2, d3] }
  | _ => none }
def pathWayRow : OpenClaim := { program := "ytgjpbhgobjlneaa", sum := "5ef4338f4bf81401e8a40b4884c898c89a5351c3390cc5585ffb875acb5be362", func := "demesne/demesnelaw45.PathWay", spec := "pathWay", unfollowed := true, recurses := true, apart := false }
def PathWaySaid : Prop := pathWayRow.holds Try.pinned (OpenSpec.ofChange pathWaySpec)

/-- ITS FALSE NEIGHBOUR: 'it returns false'. Refute it at one input. -/
def pathWayWrong : ChangeSpec := { name := "pathWay", fn := fun _ => fun
  | [d1, d2, d3] => { results := [.lit (.bool false)], args := [d1, d2, d3] }
  | _ => none }
def PathWayWrongFalsely : Prop := pathWayRow.holds Try.pinned (OpenSpec.ofChange pathWayWrong)

/-- 'demesnelaw45.PathTrue': WHATEVER THE INPUT: true; the input reads as it did. -/
def pathTrueSpec : ChangeSpec := { name := "pathTrue", fn := fun _ => fun
  | [d1, d2, d3] => { results := [.lit (.bool true)], args := [d1, d2, d3] }
  | _ => none }
def pathTrueRow : OpenClaim := { program := "ytgjpbhgobjlneaa", sum := "5ef4338f4bf81401e8a40b4884c898c89a5351c3390cc5585ffb875acb5be362", func := "demesne/demesnelaw45.PathTrue", spec := "pathTrue", unfollowed := true, recurses := true, apart := false }
def PathTrueSaid : Prop := pathTrueRow.holds Try.pinned (OpenSpec.ofChange pathTrueSpec)

/-- ITS FALSE NEIGHBOUR: 'it returns false'. Refute it at one input. -/
def pathTrueWrong : ChangeSpec := { name := "pathTrue", fn := fun _ => fun
  | [d1, d2, d3] => { results := [.lit (.bool false)], args := [d1, d2, d3] }
  | _ => none }
def PathTrueWrongFalsely : Prop := pathTrueRow.holds Try.pinned (OpenSpec.ofChange pathTrueWrong)

/-- 'demesnelaw45.PathCalm': WHATEVER THE INPUT: true; the input reads as it did. -/
def pathCalmSpec : ChangeSpec := { name := "pathCalm", fn := fun _ => fun
  | [d1, d2] => { results := [.lit (.bool true)], args := [d1, d2] }
  | _ => none }
def pathCalmRow : OpenClaim := { program := "ytgjpbhgobjlneaa", sum := "5ef4338f4bf81401e8a40b4884c898c89a5351c3390cc5585ffb875acb5be362", func := "demesne/demesnelaw45.PathCalm", spec := "pathCalm", unfollowed := true, recurses := true, apart := false }
def PathCalmSaid : Prop := pathCalmRow.holds Try.pinned (OpenSpec.ofChange pathCalmSpec)

/-- ITS FALSE NEIGHBOUR: 'it returns false'. Refute it at one input. -/
def pathCalmWrong : ChangeSpec := { name := "pathCalm", fn := fun _ => fun
  | [d1, d2] => { results := [.lit (.bool false)], args := [d1, d2] }
  | _ => none }
def PathCalmWrongFalsely : Prop := pathCalmRow.holds Try.pinned (OpenSpec.ofChange pathCalmWrong)

/- THE SECOND FORM. 'bulk': how many values and letters a reading holds, each counted each time it is reached (what is shared counts as often as it is met; a slice's spare places count too). A statement '..UptoSaid' is the law's where the arguments, and the package variables that the reading takes, are together of bulk at most 1048576: NARROWER than '..Said'. Prove '..Said' where nothing that the law and all that it calls make is longer than what came in: it says more and counts as full. Else prove '..UptoSaid'. A law counts once. -/
mutual
def uptoBulk {H : Type} : DataW H → Nat
  | .lit (.string bytes) => bytes.length + 1
  | .lit _ => 1
  | .nil => 1
  | .ptr d => uptoBulk d + 1
  | .slice elems spare => uptoBulkAll elems + uptoBulkAll spare + 1
  | .agg parts => uptoBulkAll parts + 1
  | .iface _ d => uptoBulk d + 1
  | .map entries => uptoBulkEntries entries + 1
  | .held _ => 1
def uptoBulkAll {H : Type} : List (DataW H) → Nat
  | [] => 0
  | d :: r => uptoBulk d + uptoBulkAll r
def uptoBulkEntries {H : Type} : List (Lit × DataW H) → Nat
  | [] => 0
  | x :: r => uptoBulkEntry x + uptoBulkEntries r
def uptoBulkEntry {H : Type} : Lit × DataW H → Nat
  | (.string bytes, d) => bytes.length + uptoBulk d + 1
  | (_, d) => uptoBulk d + 1
 end
def uptoSmall : (H : Type) → List (DataW H) → Bool := fun _ ds => decide (uptoBulkAll ds ≤ 1048576)
def OpenSpec.upto (s : _root_.Go.ChangeSpec) : _root_.Go.OpenSpec := { _root_.Go.OpenSpec.ofChange s with cond := some uptoSmall }

/-- 'demesnelaw44.IsoMatch', WHERE WHAT IT READS IS OF BULK AT MOST 1048576: true; the input reads as it did. -/
def isoMatchUptoRow : OpenClaim := { program := "ytgjpbhgobjlneaa", sum := "5ef4338f4bf81401e8a40b4884c898c89a5351c3390cc5585ffb875acb5be362", func := "demesne/demesnelaw44.IsoMatch", spec := "isoMatch", unfollowed := true, recurses := true, apart := false, narrowed := true }
def IsoMatchUptoSaid : Prop := isoMatchUptoRow.holds Try.pinned (OpenSpec.upto isoMatchSpec)

/-- 'demesnelaw44.IsoBack', WHERE WHAT IT READS IS OF BULK AT MOST 1048576: true; the input reads as it did. -/
def isoBackUptoRow : OpenClaim := { program := "ytgjpbhgobjlneaa", sum := "5ef4338f4bf81401e8a40b4884c898c89a5351c3390cc5585ffb875acb5be362", func := "demesne/demesnelaw44.IsoBack", spec := "isoBack", unfollowed := true, recurses := true, apart := false, narrowed := true }
def IsoBackUptoSaid : Prop := isoBackUptoRow.holds Try.pinned (OpenSpec.upto isoBackSpec)

/-- 'demesnelaw45.PathReach', WHERE WHAT IT READS IS OF BULK AT MOST 1048576: true; the input reads as it did. -/
def pathReachUptoRow : OpenClaim := { program := "ytgjpbhgobjlneaa", sum := "5ef4338f4bf81401e8a40b4884c898c89a5351c3390cc5585ffb875acb5be362", func := "demesne/demesnelaw45.PathReach", spec := "pathReach", unfollowed := true, recurses := true, apart := false, narrowed := true }
def PathReachUptoSaid : Prop := pathReachUptoRow.holds Try.pinned (OpenSpec.upto pathReachSpec)

/-- 'demesnelaw45.PathWay', WHERE WHAT IT READS IS OF BULK AT MOST 1048576: true; the input reads as it did. -/
def pathWayUptoRow : OpenClaim := { program := "ytgjpbhgobjlneaa", sum := "5ef4338f4bf81401e8a40b4884c898c89a5351c3390cc5585ffb875acb5be362", func := "demesne/demesnelaw45.PathWay", spec := "pathWay", unfollowed := true, recurses := true, apart := false, narrowed := true }
def PathWayUptoSaid : Prop := pathWayUptoRow.holds Try.pinned (OpenSpec.upto pathWaySpec)

/-- 'demesnelaw45.PathTrue', WHERE WHAT IT READS IS OF BULK AT MOST 1048576: true; the input reads as it did. -/
def pathTrueUptoRow : OpenClaim := { program := "ytgjpbhgobjlneaa", sum := "5ef4338f4bf81401e8a40b4884c898c89a5351c3390cc5585ffb875acb5be362", func := "demesne/demesnelaw45.PathTrue", spec := "pathTrue", unfollowed := true, recurses := true, apart := false, narrowed := true }
def PathTrueUptoSaid : Prop := pathTrueUptoRow.holds Try.pinned (OpenSpec.upto pathTrueSpec)

/-- 'demesnelaw45.PathCalm', WHERE WHAT IT READS IS OF BULK AT MOST 1048576: true; the input reads as it did. -/
def pathCalmUptoRow : OpenClaim := { program := "ytgjpbhgobjlneaa", sum := "5ef4338f4bf81401e8a40b4884c898c89a5351c3390cc5585ffb875acb5be362", func := "demesne/demesnelaw45.PathCalm", spec := "pathCalm", unfollowed := true, recurses := true, apart := false, narrowed := true }
def PathCalmUptoSaid : Prop := pathCalmUptoRow.holds Try.pinned (OpenSpec.upto pathCalmSpec)

end Rows
end Go.Proofs.Ytgjpbhgobjlneaa
