/- kind.Unique, shape.want, Fits and Gives on plain data. Conditions: at most 2^20 classes. -/
import Derived.Test.YthkojpnjdpbcgaaGreatDoorMl17
import Derived.Test.YthkojpnjdpbcgaaGreatDoorMl19
set_option linter.unusedVariables false
set_option maxRecDepth 100000
set_option maxHeartbeats 8000000
set_option linter.unusedSimpArgs false
namespace Go.Proofs.YthkojpnjdpbcgaaGreatDoor
open Go.RowKit
def qan (t:Ty):Bool:=t.kind==2&&t.o0.1==6
def wantB (e:Int) (t:Ty):Bool:=if (e==13)=true then t.kind==2 else if (e==14)=true then (t.kind==2||t.kind==3) else t.kind==1
def qc2 (p:List Cs) (f t:Ty):Int :=
 if (t.kind==1&&f.kind==1)=true then 0 else if (t.kind != 2)=true then 14 else if (f.kind==3)=true then 0 else if (f.kind != 2)=true then 14
 else if qan f=true then 22 else if qan t=true then 22 else if (!qcd p f.cls t.cls)=true then 15 else 0
def qfe (p:List Cs) (f t:Ty):Int :=
 if (f.kind != 2)=true then 14 else if (t.kind != 2)=true then 14 else if (!qan f)=true then 22 else if (!qcd p f.cls t.cls)=true then 15 else 0
theorem qbd (t:Ty):qaa Tryz.prog 59 [.r (Ty.at t)] (.a (.v (.bool (qan t)))):=by
 refine qaa.go Tryz.func59 rfl Tryz.ntmps59 rfl rfl rfl (fun C hro=>?_)
 have fx:=trivial
 repeat' (first|refine stp [0,1,2] ?_|fail)
 rfl
theorem pFits (p:List Cs) (f t:Ty) (hn:p.length≤1048576):qaa Tryz.prog 157 [.a (.sl (p.map Cs.at)),.r (Ty.at f),.r (Ty.at t)] (.a (.v (.int .i64 (qc2 p f t)))):=by
 refine qaa.go Tryz.func157 rfl Tryz.ntmps157 rfl rfl rfl (fun C hro=>?_)
 have fx:=trivial
 repeat' (first|refine stp [0,1,2,4,5,6,7,16,20,24,28,33] ?_|(refine stc (r1:=by first|exact qbd f|exact qbd t|exact qm4 p f.cls t.cls hn) (r2:=?_);refine rnx ?_)|refine WP.cn (fun hc=>?_) (fun hc=>?_)|fail)
 all_goals (refine qco ?_;unfold qc2;simp_all)
theorem pGives (p:List Cs) (f t:Ty) (hn:p.length≤1048576):qaa Tryz.prog 108 [.a (.sl (p.map Cs.at)),.r (Ty.at f),.r (Ty.at t)] (.a (.v (.int .i64 (qfe p f t)))):=by
 refine qaa.go Tryz.func108 rfl Tryz.ntmps108 rfl rfl rfl (fun C hro=>?_)
 have fx:=trivial
 repeat' (first|refine stp [0,1,2,4,5,6,7,14,18] ?_|(refine stc (r1:=by first|exact qbd f|exact qm4 p f.cls t.cls hn) (r2:=?_);refine rnx ?_)|refine WP.cn (fun hc=>?_) (fun hc=>?_)|fail)
 all_goals (refine qco ?_;unfold qfe;simp_all)
theorem pWant (e:Int) (t:Ty):qaa Tryz.prog 172 [.a (.v (.int .i64 e)),.r (Ty.at t)] (.a (.v (.bool (wantB e t)))):=by
 refine qaa.go Tryz.func172 rfl Tryz.ntmps172 rfl rfl rfl (fun C hro=>?_)
 have fx:=trivial
 repeat' (first|refine stp [0,1,3,4,5,6,11] ?_|refine WP.cn (fun hc=>?_) (fun hc=>?_)|fail)
 all_goals (refine qam ?_;unfold wantB;simp_all)
end Go.Proofs.YthkojpnjdpbcgaaGreatDoor
