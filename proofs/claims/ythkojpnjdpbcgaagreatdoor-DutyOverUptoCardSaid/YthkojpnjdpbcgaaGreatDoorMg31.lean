/- The program's expressions, as far as they go without their kids' kids, on plain data. Conditions: at most 2^20 of anything. -/
import Derived.Test.YthkojpnjdpbcgaaGreatDoorMg30
import Derived.Test.YthkojpnjdpbcgaaGreatDoorMg8
set_option linter.unusedVariables false
set_option maxRecDepth 100000
set_option maxHeartbeats 8000000
set_option linter.unusedSimpArgs false
namespace Go.Proofs.YthkojpnjdpbcgaaGreatDoor
open Go.RowKit
theorem retG1 {P:Program} {n t:Nat} {z:Value} {O:D→List Bx→D→Prop} {e:Nat→D} {st:List Bx} (ht:decide (t<n)=true) (he:e t=.a (.v z)) (h:O (.a (.v z)) st (e 1000000)):retG P n [.tmp t] O .ret e st:=by
 refine⟨.a (.v z),⟨?_,rfl⟩,rfl,h⟩
 simp only [res1]
 rw [if_pos (of_decide_eq_true ht),he];rfl
end Go.Proofs.YthkojpnjdpbcgaaGreatDoor
