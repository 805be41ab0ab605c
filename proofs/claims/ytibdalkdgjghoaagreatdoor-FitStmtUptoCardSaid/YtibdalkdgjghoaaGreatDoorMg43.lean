/- The object of a statement, and which method a call calls, on plain data. Conditions: at most 2^20 of anything. -/
import Derived.Test.YtibdalkdgjghoaaGreatDoorMg41
import Derived.Test.YtibdalkdgjghoaaGreatDoorMg42
import Derived.Test.YtibdalkdgjghoaaGreatDoorMg36
set_option linter.unusedVariables false
set_option maxRecDepth 100000
set_option maxHeartbeats 8000000
set_option linter.unusedSimpArgs false
namespace Go.Proofs.YtibdalkdgjghoaaGreatDoor
open Go.RowKit
def obI (a:Ak):Int×Ak:=if (!(typeT a.c a.m a.s.y).2)=true then (13,a) else ((if ((typeT a.c a.m a.s.y).1.kind != 2)=true then 14 else if (a.s.kind==4)=true then 0 else if uniqB (typeT a.c a.m a.s.y).1=true then 22 else 0),{ a with o:=(typeT a.c a.m a.s.y).1 })
theorem pgObject (a:Ak) (h:a.ok):DM Tryz.prog 48 [.a (.ptr 0 0)] [.cell (Ak.at a)] (.a (.v (.int .i64 (obI a).1))) [.cell (Ak.at (obI a).2)]:=by
 have h1:=pType a.c a.m a.s.y h.nc h.na h.nl
 unfold obI
 generalize typeT a.c a.m a.s.y=R at h1 ⊢
 have hU:=pUnique R.1
 cases hk:(a.s.kind==4) with
 | true =>
  refine DM.intro Tryz.func48 rfl Tryz.ntmps48 rfl rfl rfl (by simp only [go_sem,simprocAttr]) (fun V0 Kb Nx=>?_)
  have fx:=trivial
  replace fx:=And.intro tyZ (And.intro hk trivial)
  repeat' (first|(refine RWL.fin ?_;try simp only [thenQ_n,blockQ_n])|refine stp [0,2,3,4,23,30] ?_|(refine RS.sE ?_;refine rnx ?_)|(refine RS.pk ?_;refine rnx ?_)|(refine RS.gF ?_;refine rnx ?_)|refine RWL.fr ?_|refine RWL.wt ?_|(refine stc (r1:=by first|exact h1|exact pUnique R.1|exact pMust true 22) (r2:=?_);refine rnx ?_)|(refine' WP.dl (id:=1) [0,1,3,7,0,16,48,112,0,256,768,1792,3840,8191,16383,32767,32767,0,196607,524287] [0,2,3,4,23,30] [17,18] [(17,_),(18,_)] ?_)|refine RWL.re ?_ ?_|refine RdO.oz|refine RdO.oa ?_|refine RdO.oe ?_|refine RdO.on|refine WP.cn (fun hc=>?_) (fun hc=>?_)|fail)
  all_goals (simp only [*,if_true,if_false,Bool.false_eq_true];exact retM1 ⟨rfl,_,rfl⟩)
 | false =>
  cases hu:uniqB R.1 with
  | true =>
   rw [hu] at hU
   refine DM.intro Tryz.func48 rfl Tryz.ntmps48 rfl rfl rfl (by simp only [go_sem,simprocAttr]) (fun V0 Kb Nx=>?_)
   have fx:=trivial
   replace fx:=And.intro tyZ (And.intro hk trivial)
   repeat' (first|(refine RWL.fin ?_;try simp only [thenQ_n,blockQ_n])|refine stp [0,2,3,4,23,30] ?_|(refine RS.sE ?_;refine rnx ?_)|(refine RS.pk ?_;refine rnx ?_)|(refine RS.gF ?_;refine rnx ?_)|refine RWL.fr ?_|refine RWL.wt ?_|(refine stc (r1:=by first|exact h1|exact hU|exact pMust false 22) (r2:=?_);refine rnx ?_)|(refine' WP.dl (id:=1) [0,1,3,7,0,16,48,112,0,256,768,1792,3840,8191,16383,32767,32767,0,196607,524287] [0,2,3,4,23,30] [17,18] [(17,_),(18,_)] ?_)|refine RWL.re ?_ ?_|refine RdO.oz|refine RdO.oa ?_|refine RdO.oe ?_|refine RdO.on|refine WP.cn (fun hc=>?_) (fun hc=>?_)|fail)
   all_goals (simp only [*,if_true,if_false,Bool.false_eq_true];exact retM1 ⟨rfl,_,rfl⟩)
  | false =>
   rw [hu] at hU
   refine DM.intro Tryz.func48 rfl Tryz.ntmps48 rfl rfl rfl (by simp only [go_sem,simprocAttr]) (fun V0 Kb Nx=>?_)
   have fx:=trivial
   replace fx:=And.intro tyZ (And.intro hk trivial)
   repeat' (first|(refine RWL.fin ?_;try simp only [thenQ_n,blockQ_n])|refine stp [0,2,3,4,23,30] ?_|(refine RS.sE ?_;refine rnx ?_)|(refine RS.pk ?_;refine rnx ?_)|(refine RS.gF ?_;refine rnx ?_)|refine RWL.fr ?_|refine RWL.wt ?_|(refine stc (r1:=by first|exact h1|exact hU|exact pMust true 22) (r2:=?_);refine rnx ?_)|(refine' WP.dl (id:=1) [0,1,3,7,0,16,48,112,0,256,768,1792,3840,8191,16383,32767,32767,0,196607,524287] [0,2,3,4,23,30] [17,18] [(17,_),(18,_)] ?_)|refine RWL.re ?_ ?_|refine RdO.oz|refine RdO.oa ?_|refine RdO.oe ?_|refine RdO.on|refine WP.cn (fun hc=>?_) (fun hc=>?_)|fail)
   all_goals (simp only [*,if_true,if_false,Bool.false_eq_true];exact retM1 ⟨rfl,_,rfl⟩)
theorem obI_keep (a:Ak):(obI a).2.p=a.p∧(obI a).2.c=a.c∧(obI a).2.m=a.m∧(obI a).2.s=a.s∧(obI a).2.x=a.x:=by
 unfold obI;split<;>exact⟨rfl,rfl,rfl,rfl,rfl⟩
end Go.Proofs.YtibdalkdgjghoaaGreatDoor
