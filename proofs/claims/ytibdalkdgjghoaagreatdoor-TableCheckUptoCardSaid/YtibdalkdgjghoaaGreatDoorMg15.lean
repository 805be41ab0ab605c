/- Slices of cells of one's own: made of an array in a cell, their length. No program in sight. Conditions: none. -/
import Derived.Test.YtibdalkdgjghoaaGreatDoorMg14
set_option linter.unusedVariables false
set_option maxRecDepth 100000
set_option maxHeartbeats 8000000
set_option linter.unusedSimpArgs false
namespace Go.Proofs.YtibdalkdgjghoaaGreatDoor
open Go.RowKit
section
variable {P:Program} {st:List Bx} {e:Nat→D} {o:Oper}
end
section
variable {P:Program} {C:Cx P} {ops:Array Oper} {r:List Oper} {e:Nat→D} {st:List Bx} {dst:Option Nat} {ty T:TypeId} {pos:String} {after:Array Edge} {K:(Nat→D)→List Bx→Prop} {KQ:(Nat→D)→Prop} {guard:Option (Nat×Bool)} {i off len sz n m:Nat} {x:Operand} {σ:List Nat}
@[go_sem] theorem dCells_cs:dCells (.a (.cs i off n))=some [.cs i off n]:=rfl
@[go_sem] theorem rnA_cs:rnA σ (.cs i off n)=.cs (rnN σ i) off n:=rfl
@[go_sem] theorem unA_cs:unA σ (.cs i off n)=.cs (σ.idxOf i) off n:=rfl
@[go_sem] theorem inA_cs:inA σ (.cs i off n)=σ.contains i:=rfl
@[go_sem] theorem nrA_cs:nrA m (.cs i off n)=decide (i<m):=rfl
end
section
variable {P:Program} {st:List Bx} {e:Nat→D} {o:Oper}
end
section
variable {P:Program} {C:Cx P} {ops:Array Oper} {r:List Oper} {e:Nat→D} {st st':List Bx} {dst:Option Nat} {ty T:TypeId} {pos:String} {after:Array Edge} {K:(Nat→D)→List Bx→Prop} {i off len n:Nat} {row:List A} {rows:List (List A)} {d s:Operand}
@[go_sem] theorem evQ_copy {q:Array TypeId} {xs:Array Operand} {guard:Option (Nat×Bool)}:evQ P st e ⟨dst,.call ⟨.builtin .copy,xs,q⟩,ty,pos,after,guard⟩=none:=rfl
@[go_sem] theorem evG_copy {q:Array TypeId} {xs:Array Operand} {guard:Option (Nat×Bool)}:evG P st e ⟨dst,.call ⟨.builtin .copy,xs,q⟩,ty,pos,after,guard⟩=none:=rfl
@[go_sem] theorem slD_ptr {lo hi:Option Operand} {j:Nat}:slD P T e lo hi (.a (.ptr j off))=none:=rfl
@[go_sem] theorem lenS_cs:lenS P st T (.a (.cs i off len))=none:=by unfold lenS;split<;>simp_all [lenD]
end
end Go.Proofs.YtibdalkdgjghoaaGreatDoor
