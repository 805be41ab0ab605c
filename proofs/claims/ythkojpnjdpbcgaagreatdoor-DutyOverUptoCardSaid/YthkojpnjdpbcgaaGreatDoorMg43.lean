/- What the reckoner knows of the program by other means. Conditions: none. -/
import Derived.Test.YthkojpnjdpbcgaaGreatDoorMg17
import Derived.Test.YthkojpnjdpbcgaaGreatDoorMg30
set_option linter.unusedVariables false
set_option maxRecDepth 100000
set_option maxHeartbeats 8000000
set_option linter.unusedSimpArgs false
namespace Go.Proofs.YthkojpnjdpbcgaaGreatDoor
open Go.RowKit
def knName (f:FuncId) (ds:List D):Option D :=
 match ds with
 | [.a (.v (.string ⟨⟨s⟩⟩))]=>if (Nat.beq f 196&&Nat.ble s.length 1000000000)=true then some (.a (.v (.bool (qgg s)))) else none
 | _=>none
theorem knName_ok:∀f ds d,knName f ds=some d→qab Tryz.prog f ds d:=fun f ds d h=>by
 unfold knName at h
 split at h
 ·rename_i s
  split at h
  ·rename_i hc
   rw [Bool.and_eq_true,Nat.ble_eq] at hc
   have:=Nat.eq_of_beq_eq_true hc.1
   subst this
   injection h with h;subst h
   exact pwName s hc.2
  ·cases h
 ·cases h
def knP:=knName
theorem knP_ok:∀f ds d,knP f ds=some d→qab Tryz.prog f ds d:=knName_ok
end Go.Proofs.YthkojpnjdpbcgaaGreatDoor
