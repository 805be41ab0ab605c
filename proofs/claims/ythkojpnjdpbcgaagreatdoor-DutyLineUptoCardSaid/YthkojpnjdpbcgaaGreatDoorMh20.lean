/- kind.Unique, shape.want, Fits and Gives on plain data. Conditions: at most 2^20 classes. -/
import Derived.Test.YthkojpnjdpbcgaaGreatDoorMh17
import Derived.Test.YthkojpnjdpbcgaaGreatDoorMh19
set_option linter.unusedVariables false
set_option maxRecDepth 100000
set_option maxHeartbeats 8000000
set_option linter.unusedSimpArgs false
namespace Go.Proofs.YthkojpnjdpbcgaaGreatDoor
open Go.RowKit
def qar (t:Ty):Bool:=t.kind==2&&t.o0.1==6
def qmq (e:Int) (t:Ty):Bool:=if (e==13)=true then t.kind==2 else if (e==14)=true then (t.kind==2||t.kind==3) else t.kind==1
def qc5 (p:List Cs) (f t:Ty):Int :=
 if (t.kind==1&&f.kind==1)=true then 0 else if (t.kind != 2)=true then 14 else if (f.kind==3)=true then 0 else if (f.kind != 2)=true then 14
 else if qar f=true then 22 else if qar t=true then 22 else if (!qb1 p f.cls t.cls)=true then 15 else 0
def qej (p:List Cs) (f t:Ty):Int :=
 if (f.kind != 2)=true then 14 else if (t.kind != 2)=true then 14 else if (!qar f)=true then 22 else if (!qb1 p f.cls t.cls)=true then 15 else 0
theorem qbk (t:Ty):qaa Tryz.prog 59 [.r (Ty.at t)] (.a (.v (.bool (qar t)))):=by
 refine qaa.go Tryz.func59 rfl Tryz.ntmps59 rfl rfl rfl (fun C hro=>?_)
 have fx:=trivial
 repeat' (first|refine stp [0,1,2] ?_|fail)
 rfl
theorem pFits (p:List Cs) (f t:Ty) (hn:p.length≤1048576):qaa Tryz.prog 157 [.a (.sl (p.map Cs.at)),.r (Ty.at f),.r (Ty.at t)] (.a (.v (.int .i64 (qc5 p f t)))):=by
 refine qaa.go Tryz.func157 rfl Tryz.ntmps157 rfl rfl rfl (fun C hro=>?_)
 have fx:=trivial
 repeat' (first|refine stp [0,1,2,4,5,6,7,16,20,24,28,33] ?_|(refine stc (r1:=by first|exact qbk f|exact qbk t|exact qog p f.cls t.cls hn) (r2:=?_);refine rnx ?_)|refine WP.cn (fun hc=>?_) (fun hc=>?_)|fail)
 all_goals (refine qaw ?_;unfold qc5;simp_all)
theorem pGives (p:List Cs) (f t:Ty) (hn:p.length≤1048576):qaa Tryz.prog 108 [.a (.sl (p.map Cs.at)),.r (Ty.at f),.r (Ty.at t)] (.a (.v (.int .i64 (qej p f t)))):=by
 refine qaa.go Tryz.func108 rfl Tryz.ntmps108 rfl rfl rfl (fun C hro=>?_)
 have fx:=trivial
 repeat' (first|refine stp [0,1,2,4,5,6,7,14,18] ?_|(refine stc (r1:=by first|exact qbk f|exact qog p f.cls t.cls hn) (r2:=?_);refine rnx ?_)|refine WP.cn (fun hc=>?_) (fun hc=>?_)|fail)
 all_goals (refine qaw ?_;unfold qej;simp_all)
theorem pWant (e:Int) (t:Ty):qaa Tryz.prog 172 [.a (.v (.int .i64 e)),.r (Ty.at t)] (.a (.v (.bool (qmq e t)))):=by
 refine qaa.go Tryz.func172 rfl Tryz.ntmps172 rfl rfl rfl (fun C hro=>?_)
 have fx:=trivial
 repeat' (first|refine stp [0,1,3,4,5,6,11] ?_|refine WP.cn (fun hc=>?_) (fun hc=>?_)|fail)
 all_goals (refine qaj ?_;unfold qmq;simp_all)
end Go.Proofs.YthkojpnjdpbcgaaGreatDoor
