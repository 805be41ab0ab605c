/- The program's statements: what a kind has, on plain data. Conditions: none. -/
import Derived.Test.YtfbopaaambkfkaaGreatDoorMg14
set_option linter.unusedVariables false
set_option maxRecDepth 100000
set_option maxHeartbeats 8000000
set_option linter.unusedSimpArgs false
namespace Go.Proofs.YtfbopaaambkfkaaGreatDoor
open Go.RowKit
def hasP (k:Int):Int:=if k=1 then 33 else if k=2 then 15 else if k=3 then 46 else if k=4 then 591 else if k=5 then 17 else if k=6 then 49 else if k=7 then 3 else if k=8 then 2 else if k=9 then 416 else if k=10 then 160 else if k=11 then 32 else 0
theorem psHas (k:Int):qaa Tryz.prog 125 [.a (.v (.int .i64 k))] (.a (.v (.int .i64 (hasP k)))):=by
 by_cases hin:1≤k∧k≤11
 ·have:k=1∨k=2∨k=3∨k=4∨k=5∨k=6∨k=7∨k=8∨k=9∨k=10∨k=11:=by omega
  clear hin
  rcases this with rfl|rfl|rfl|rfl|rfl|rfl|rfl|rfl|rfl|rfl|rfl
  all_goals
   refine qaa.go Tryz.func125 rfl Tryz.ntmps125 rfl rfl rfl (fun C hro=>?_)
   have fx:=trivial
   repeat' (first|refine stp [0,2,3,4,6,8,10,12,14,16,18,20,22,24] ?_|refine WP.cn (fun hc=>?_) (fun hc=>?_)|fail)
   rfl
 ·have h1:=beqF (show k≠1 by omega)
  have h2:=beqF (show k≠2 by omega)
  have h3:=beqF (show k≠3 by omega)
  have h4:=beqF (show k≠4 by omega)
  have h5:=beqF (show k≠5 by omega)
  have h6:=beqF (show k≠6 by omega)
  have h7:=beqF (show k≠7 by omega)
  have h8:=beqF (show k≠8 by omega)
  have h9:=beqF (show k≠9 by omega)
  have h10:=beqF (show k≠10 by omega)
  have h11:=beqF (show k≠11 by omega)
  refine qaa.go Tryz.func125 rfl Tryz.ntmps125 rfl rfl rfl (fun C hro=>?_)
  have fx:=trivial
  replace fx:=ai12 h1 (ai12 h2 (ai12 h3 (ai12 h4 (ai12 h5 (ai12 h6 (ai12 h7 (ai12 h8 (ai12 h9 (ai12 h10 (ai12 h11 trivial))))))))))
  repeat' (first|refine stp [0,2,3,4,6,8,10,12,14,16,18,20,22,24] ?_|refine WP.cn (fun hc=>?_) (fun hc=>?_)|fail)
  refine ql9 ?_
  unfold hasP
  rw [if_neg (by omega),if_neg (by omega),if_neg (by omega),if_neg (by omega),if_neg (by omega),if_neg (by omega),if_neg (by omega),if_neg (by omega),if_neg (by omega),if_neg (by omega),if_neg (by omega)]
def bitP (h m:Int):Int:=IntKind.i64.wrap (BitVec.ofInt IntKind.i64.bits h &&& BitVec.ofInt IntKind.i64.bits m).toNat
theorem qgp (o:Int×Int) (p:Int):qaa Tryz.prog 67 [.r (owAt o),.a (.v (.int .i64 p))] (.a (.v (.bool (owB o p)))):=by
 obtain⟨k,n⟩:=o
 by_cases hin:1≤k∧k≤7
 ·have:k=1∨k=2∨k=3∨k=4∨k=5∨k=6∨k=7:=by omega
  clear hin
  rcases this with rfl|rfl|rfl|rfl|rfl|rfl|rfl
  all_goals
   refine qaa.go Tryz.func67 rfl Tryz.ntmps67 rfl rfl rfl (fun C hro=>?_)
   have fx:=trivial
   repeat' (first|refine stp [0,1,2,4,6,7,9,11,13,15] ?_|refine WP.cn (fun hc=>?_) (fun hc=>?_)|fail)
   refine qaf ?_
   simp [owB]
 ·have h1:=beqF (show k≠1 by omega)
  have h2:=beqF (show k≠2 by omega)
  have h3:=beqF (show k≠3 by omega)
  have h4:=beqF (show k≠4 by omega)
  have h5:=beqF (show k≠5 by omega)
  have h6:=beqF (show k≠6 by omega)
  have h7:=beqF (show k≠7 by omega)
  refine qaa.go Tryz.func67 rfl Tryz.ntmps67 rfl rfl rfl (fun C hro=>?_)
  have fx:=trivial
  replace fx:=ai12 h1 (ai12 h2 (ai12 h3 (ai12 h4 (ai12 h5 (ai12 h6 (ai12 h7 trivial))))))
  repeat' (first|refine stp [0,1,2,4,6,7,9,11,13,15] ?_|refine WP.cn (fun hc=>?_) (fun hc=>?_)|fail)
  refine qaf ?_
  unfold owB
  rw [if_neg (by dsimp only;omega),if_neg (by dsimp only;omega)]
  dsimp only
  rw [h1,h2,h4,h5,h6];rfl
end Go.Proofs.YtfbopaaambkfkaaGreatDoor
