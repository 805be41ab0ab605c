/- kind.Unique, shape.want, Fits and Gives on plain data. Conditions: at most 2^20 classes. -/
import Derived.Test.YtibdalkdgjghoaaGreatDoorMg22
import Derived.Test.YtibdalkdgjghoaaGreatDoorMg20
set_option linter.unusedVariables false
set_option maxRecDepth 100000
set_option maxHeartbeats 8000000
set_option linter.unusedSimpArgs false
namespace Go.Proofs.YtibdalkdgjghoaaGreatDoor
open Go.RowKit
def uniqB (t:Ty):Bool:=t.kind==2&&t.o0.1==6
def wantB (e:Int) (t:Ty):Bool:=if (e==13)=true then t.kind==2 else if (e==14)=true then (t.kind==2||t.kind==3) else t.kind==1
def fitsI (p:List Cs) (f t:Ty):Int :=
 if (t.kind==1&&f.kind==1)=true then 0 else if (t.kind != 2)=true then 14 else if (f.kind==3)=true then 0 else if (f.kind != 2)=true then 14
 else if uniqB f=true then 22 else if uniqB t=true then 22 else if (!belowB p f.cls t.cls)=true then 15 else 0
def givesI (p:List Cs) (f t:Ty):Int :=
 if (f.kind != 2)=true then 14 else if (t.kind != 2)=true then 14 else if (!uniqB f)=true then 22 else if (!belowB p f.cls t.cls)=true then 15 else 0
theorem pUnique (t:Ty):DPure Tryz.prog 52 [.r (Ty.at t)] (.a (.v (.bool (uniqB t)))):=by
 refine DPure.go Tryz.func52 rfl Tryz.ntmps52 rfl rfl rfl (fun C hro=>?_)
 have fx:=trivial
 repeat' (first|refine stp [0,1,2] ?_|(refine RS.pk ?_;refine rnx ?_)|(refine RS.gF ?_;refine rnx ?_)|(refine RS.xC ?_;refine rnx ?_)|fail)
 rfl
theorem pFits (p:List Cs) (f t:Ty) (hn:p.length≤1048576):DPure Tryz.prog 54 [.a (.sl (p.map Cs.at)),.r (Ty.at f),.r (Ty.at t)] (.a (.v (.int .i64 (fitsI p f t)))):=by
 refine DPure.go Tryz.func54 rfl Tryz.ntmps54 rfl rfl rfl (fun C hro=>?_)
 have fx:=trivial
 repeat' (first|refine stp [0,1,2,4,5,6,7,16,20,24,28,33] ?_|(refine RS.pk ?_;refine rnx ?_)|(refine RS.gF ?_;refine rnx ?_)|(refine stc (r1:=by first|exact pUnique f|exact pUnique t|exact pBelow p f.cls t.cls hn) (r2:=?_);refine rnx ?_)|refine WP.cn (fun hc=>?_) (fun hc=>?_)|fail)
 all_goals (refine int_eq ?_;unfold fitsI;simp_all)
theorem pGives (p:List Cs) (f t:Ty) (hn:p.length≤1048576):DPure Tryz.prog 53 [.a (.sl (p.map Cs.at)),.r (Ty.at f),.r (Ty.at t)] (.a (.v (.int .i64 (givesI p f t)))):=by
 refine DPure.go Tryz.func53 rfl Tryz.ntmps53 rfl rfl rfl (fun C hro=>?_)
 have fx:=trivial
 repeat' (first|refine stp [0,1,2,4,5,6,7,14,18] ?_|(refine stc (r1:=by first|exact pUnique f|exact pBelow p f.cls t.cls hn) (r2:=?_);refine rnx ?_)|refine WP.cn (fun hc=>?_) (fun hc=>?_)|fail)
 all_goals (refine int_eq ?_;unfold givesI;simp_all)
theorem pWant (e:Int) (t:Ty):DPure Tryz.prog 111 [.a (.v (.int .i64 e)),.r (Ty.at t)] (.a (.v (.bool (wantB e t)))):=by
 refine DPure.go Tryz.func111 rfl Tryz.ntmps111 rfl rfl rfl (fun C hro=>?_)
 have fx:=trivial
 repeat' (first|refine stp [0,1,3,4,5,6,11] ?_|(refine RS.pk ?_;refine rnx ?_)|(refine RS.gF ?_;refine rnx ?_)|refine WP.cn (fun hc=>?_) (fun hc=>?_)|fail)
 all_goals (refine bool_eq ?_;unfold wantB;simp_all)
end Go.Proofs.YtibdalkdgjghoaaGreatDoor
