/- The document's fit of a statement, part by part, on plain data. Conditions: at most 2^20 of anything. -/
import Derived.Test.YthkojpnjdpbcgaaGreatDoorMl36
import Derived.Test.YthkojpnjdpbcgaaGreatDoorMl37
set_option linter.unusedVariables false
set_option maxRecDepth 100000
set_option maxHeartbeats 8000000
set_option linter.unusedSimpArgs false
namespace Go.Proofs.YthkojpnjdpbcgaaGreatDoor
open Go.RowKit
structure Pc.ok (w:Pc):Prop where
 p:w.p.length≤1048576
 c:w.c.params.length≤1048576
 a:w.m.params.length≤1048576
 b:w.m.locals.length≤1048576
 f:qaf (fun c=>c.fields.length) w.p≤1048576
 z:qaf Cs.sz w.p≤1048576
def varT (m:Me) (s:List UInt8):Ty×Int:=if qaz m s<0 then (Ty.zero,13) else ((((m.params++m.locals)[(qaz m s).toNat]?).map Vr.ty).getD Ty.zero,0)
def objT (c:Cs) (m:Me) (s:St):Ty×Int:=if (!(qak c m s.y).2)=true then ((qak c m s.y).1,13) else if ((qak c m s.y).1.kind != 2)=true then ((qak c m s.y).1,14) else if (qan (qak c m s.y).1&&s.kind != 4)=true then ((qak c m s.y).1,22) else ((qak c m s.y).1,0)
def backI (p:List Cs) (r u:Ty):Int:=if (r.kind==0)=true then 14 else if (!qan r&&!qan u)=true then qc2 p r u else if (!qan u)=true then 22 else qfe p r u
def madeI (p:List Cs) (c:Cs) (m:Me) (s:St) (x:Ty):Int :=
 if (s.kind==5)=true then (if (x.kind != 2)=true then 14 else if (qan x != qan s.ty)=true then 22 else if (!qcd p s.ty.cls x.cls)=true then 15 else 0)
 else if qan s.ty=true then 22 else if ((oneT c m s.e).2 != 0)=true then (oneT c m s.e).2 else if ((oneT c m s.e).1.kind != 2&&(oneT c m s.e).1.kind != 3)=true then 14 else if qan (oneT c m s.e).1=true then 22 else qc2 p s.ty x
def qhi (p:List Cs) (c:Cs) (m:Me) (s:St) (x:Ty):Int :=
 if ((objT c m s).2 != 0)=true then (objT c m s).2 else if (!(qa4 p (objT c m s).1.cls s.name).2)=true then 11 else if (s.kind==2)=true then qc2 p (qa4 p (objT c m s).1.cls s.name).1.var.ty x else if ((oneT c m s.e).2 != 0)=true then (oneT c m s.e).2 else qc2 p (oneT c m s.e).1 (qa4 p (objT c m s).1.cls s.name).1.var.ty
def qk7 (p:List Cs) (c:Cs) (m:Me) (s:St):Int :=
 if (s.kind==11)=true then (if ((m.ret.kind==0) != (s.e.kind==0))=true then 14 else if (s.e.kind==0)=true then 0 else qgr p c m s.e m.ret)
 else if (s.kind==8)=true then (if ((varT m s.y).2 != 0)=true then (varT m s.y).2 else if ((varT m s.y).1.kind != 2)=true then 14 else if (!qan (varT m s.y).1)=true then 22 else 0)
 else if ((oneT c m s.e).2==0&&(oneT c m s.e).1.kind != 1)=true then 14 else (oneT c m s.e).2
end Go.Proofs.YthkojpnjdpbcgaaGreatDoor
