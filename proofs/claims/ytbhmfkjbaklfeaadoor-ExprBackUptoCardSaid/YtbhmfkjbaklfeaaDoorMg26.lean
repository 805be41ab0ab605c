/- The program's own variables, on plain data: pointers to what they hold, and slices of them. Conditions: none. -/
import Derived.Test.YtbhmfkjbaklfeaaDoorMg17
set_option linter.unusedVariables false
set_option maxRecDepth 100000
set_option maxHeartbeats 8000000
set_option linter.unusedSimpArgs false
namespace Go.Proofs.YtbhmfkjbaklfeaaDoor
open Go.RowKit
section
variable {P:Program} {C:Cx P} {ops:Array Oper} {r:List Oper} {e:Nat→D} {st:List Bx} {dst:Option Nat} {ty T:TypeId} {pos:String} {after:Array Edge} {K:(Nat→D)→List Bx→Prop} {KQ:(Nat→D)→Prop} {guard:Option (Nat×Bool)} {rows:List (List A)} {x:Operand}
@[go_sem] theorem evO_glob {g:Nat}:evO e (.global g)=glD g:=rfl
@[go_sem] theorem slD_vptr {lo hi:Option Operand} {a:Option Addr}:slD P T e lo hi (.a (.v (.pointer a)))=none:=rfl
end
def wordR:List A:=(glV 1).map .v
@[go_sem] theorem glD_words:glD 1=.a (.ref wordR 0):=rfl
@[go_sem] theorem wordR_len:wordR.length=23:=rfl
def bindR:List A:=(glV 0).map .v
@[go_sem] theorem glD_binds:glD 0=.a (.ref bindR 0):=rfl
@[go_sem] theorem bindR_len:bindR.length=18:=rfl
end Go.Proofs.YtbhmfkjbaklfeaaDoor
