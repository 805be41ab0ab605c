/- Loops over a list by a counter. No program in sight. Conditions: none. -/
import Derived.Test.YtfbopaaambkfkaaGreatDoorMg22
import Derived.Test.YtfbopaaambkfkaaGreatDoorMg9
set_option linter.unusedVariables false
set_option maxRecDepth 100000
set_option maxHeartbeats 8000000
set_option linter.unusedSimpArgs false
namespace Go.Proofs.YtfbopaaambkfkaaGreatDoor
open Go.RowKit
theorem ixE {α:Type} {l:List α} {enc:α→List A} {m k:Nat} {z:α} (hz:l[k]? = some z) (hm:(enc z).length=m) (q2:Option (Nat×Nat)):ixD (some m) q2 (.a (.sl (l.map enc))) (.a (.v (.int .i64 (k:Int))))=some (.a (.ref (enc z) 0)):=qar rfl (by rw [List.getElem?_map,hz];rfl) hm
section
variable {P:Program} {C:Cx P} {n:Nat} {Q:Exit→(Nat→D)→List Bx→Prop} {e:Nat→D} {st:List Bx}
end
section
variable {P:Program} {ops:Array Oper} {n kf:Nat} {Q:Exit→Act→World→Prop}
end
section
variable {P:Program} {C:Cx P} {n m:Nat} {Q:Exit→(Nat→D)→List Bx→Prop} {e:Nat→D} {st:List Bx} {id:Nat} {l L:List Oper} {segs:List Nat} {ops:Array Oper} {K:(Nat→D)→List Bx→Prop} {q2:(Nat→D)×List Oper}
end
section
variable {P:Program} {ops:Array Oper} {r:List Oper} {o:Oper} {e:Nat→D} {st:List Bx} {K:(Nat→D)→Prop} {dst:Option Nat}
end
section
variable {P:Program} {ops:Array Oper} {r:List Oper} {e:Nat→D} {st:List Bx} {dst:Option Nat} {ty T:TypeId} {pos:String} {after:Array Edge} {K:(Nat→D)→Prop} {guard:Option (Nat×Bool)} {n bs:Nat} {zr:List A} {rows:List (List A)}
end
end Go.Proofs.YtfbopaaambkfkaaGreatDoor
