/- slices.EqualFunc and Equal, on plain data. Conditions: at most 2^20 elements. -/
import Derived.Test.YthkojpnjdpbcgaaGreatDoorMg29
import Derived.Test.YthkojpnjdpbcgaaGreatDoorMg7
import Derived.Test.YthkojpnjdpbcgaaGreatDoorMg22
set_option linter.unusedVariables false
set_option maxRecDepth 100000
set_option maxHeartbeats 8000000
set_option linter.unusedSimpArgs false
namespace Go.Proofs.YthkojpnjdpbcgaaGreatDoor
open Go.RowKit
theorem pwName (t:List UInt8) (h:t.length≤1000000000):qab Tryz.prog 196 [.a (.v (.string (bs t)))] (.a (.v (.bool (qgg t)))):=by
 have:=qab.scal (P:=Tryz.prog) (f:=196) (xs:=[.string (bs t)]) (z:=.bool (qgg t)) (qch Tryz.func196 rfl rfl) rfl fun w hw=>by
  have:=wName_any w (bs t) h (hw w (Nat.le_refl _) fun _ _=>rfl).wd
  rw [bs_data] at this
  exact this
 exact this
@[go_sem] theorem clA_val (x:Value):clA (.v x)=true:=rfl
@[go_sem] theorem ldRow_one (y:A):qaa none [y] 0=some (.a y):=rfl
end Go.Proofs.YthkojpnjdpbcgaaGreatDoor
