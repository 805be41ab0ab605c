/- scope.This on plain data. Conditions: at most 2^20 parameters. -/
import Derived.Test.YtibdalkdgjghoaaGreatDoorMg41
import Derived.Test.YtibdalkdgjghoaaGreatDoorMg15
import Derived.Test.YtibdalkdgjghoaaGreatDoorMg43
import Derived.Test.YtibdalkdgjghoaaGreatDoorMg16
import Derived.Test.YtibdalkdgjghoaaGreatDoorMg26
import Derived.Test.YtibdalkdgjghoaaGreatDoorMg31
import Derived.Test.YtibdalkdgjghoaaGreatDoorMg44
import Derived.Test.YtibdalkdgjghoaaGreatDoorMg45
set_option linter.unusedVariables false
set_option maxRecDepth 100000
set_option maxHeartbeats 8000000
set_option linter.unusedSimpArgs false
namespace Go.Proofs.YtibdalkdgjghoaaGreatDoor
open Go.RowKit
theorem pr12Vars (m:Me) (ha:m.params.length≤1048576) (hb:m.locals.length≤1048576):DPure Tryz.prog 102 [.r (Me.at m)] (.a (.sl ((m.params++m.locals).map Vr.at))):=by
 have hma:List.map Vr.at m.params++List.map Vr.at m.locals=(m.params++m.locals).map Vr.at:=List.map_append.symm
 refine DPure.go Tryz.func102 rfl Tryz.ntmps102 rfl rfl rfl (fun C hro=>?_)
 have fx:=trivial
 repeat' (first|(refine RWL.fin ?_;try simp only [thenQ_n,blockQ_n])|refine stp [0,1,2] ?_|(refine RS.aO ?_;refine rnx ?_)|(refine RS.aN ?_;refine rnx ?_)|(refine RS.l0 ?_;refine rnx ?_)|(refine RS.aE ?_;refine rnx ?_)|(refine RS.aK ?_;refine rnx ?_)|refine RWL.fr ?_|refine RWL.wt ?_|refine RWL.l0 ?_|refine RWL.aO ?_|refine RWL.aN ?_|(refine' WP.dl (id:=1) [0,0,2,7,0,16,63,127] [0,1,2] [0,3,6] [(0,_),(3,_),(6,_)] ?_)|refine RWL.re ?_ ?_|refine RdO.oz|refine RdO.oa ?_|refine RdO.oe ?_|refine RdO.on|fail)
 rw [hma]
end Go.Proofs.YtibdalkdgjghoaaGreatDoor
