/- A slice written out in a region of drawn order. No program in sight. Conditions: none. -/
import Derived.Test.YtibdalkdgjghoaaGreatDoorMg36
set_option linter.unusedVariables false
set_option maxRecDepth 100000
set_option maxHeartbeats 8000000
set_option linter.unusedSimpArgs false
namespace Go.Proofs.YtibdalkdgjghoaaGreatDoor
open Go.RowKit
section
variable {P:Program} {ops:Array Oper} {r:List Oper} {e:Nat→D} {st:List Bx} {dst:Option Nat} {ty T:TypeId} {pos:String} {after:Array Edge} {K:(Nat→D)→Prop} {guard:Option (Nat×Bool)} {n bs:Nat} {zr:List A} {rows:List (List A)}
theorem RQ.ls {len:Nat} {parts:List (Nat×Operand)} (k:RQ P ops st r (putE e dst (.a (.sl rows))) K) (hn:es P T=some n:=by (simp only [go_sem])<;>rfl) (hn0:0<n:=by decide) (hlen:0<len:=by decide) (hz:zrT P T=some zr:=by (simp only [go_sem])<;>rfl) (hzl:zr.length=n:=by (simp only [go_sem])<;>rfl) (hcl:zr.all clA=true:=by (simp only [go_sem])<;>rfl) (hby:byt P T=some bs:=by (simp only [go_sem])<;>rfl) (hsm:len*n≤16777216:=by decide)
  (hp:partsA n (List.replicate len zr) (parts.map fun p=>(p.1,evO e p.2))=some rows:=by (simp only [go_sem,simprocAttr,List.replicate_succ,List.replicate_zero,fx])<;>rfl):RQ P ops st (⟨dst,.buildSlice T len ⟨parts⟩,ty,pos,after,guard⟩::r) e K:=⟨_,.of (.lit rfl hn hn0 hlen hz hzl hcl hby hsm hp),k⟩
end
end Go.Proofs.YtibdalkdgjghoaaGreatDoor
