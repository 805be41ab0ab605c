/- Plain answers on variables, methods, classes, programs. No program in sight. Conditions: none. -/
import Derived.Test.YtbhmfkjbaklfeaaDoorMg10
set_option linter.unusedVariables false
set_option maxRecDepth 100000
set_option maxHeartbeats 8000000
set_option linter.unusedSimpArgs false
namespace Go.Proofs.YtbhmfkjbaklfeaaDoor
open Go.RowKit
def sumOf {α:Type} (f:α→Nat):List α→Nat
 | []=>0
 | x::r=>f x+sumOf f r
def Vr.sz (v:Vr):Nat:=1+v.name.length+v.ty.cls.length
def Me.sz (m:Me):Nat:=1+m.name.length+m.ret.cls.length+sumOf Vr.sz m.params+sumOf Vr.sz m.locals+St.szs m.body
def Cs.sz (c:Cs):Nat:=1+c.name.length+c.super.length+sumOf (fun s:List UInt8=>s.length+1) c.params+c.above.length+sumOf Vr.sz c.fields+sumOf Me.sz c.methods
/-! The same, one by one; places, too, where q. -/
def Vr.sameB (q:Bool) (a b:Vr):Bool:=a.name==b.name&&(decide (a.ty=b.ty)&&!(q&&a.at_ != b.at_))
namespace St
end St
/-! Holes. -/
def Ty.hole (t:Ty):Nat:=if t.kind==2&&t.o0.1==7 then 1 else 0
mutual
def St.inn:St→Nat
 | ⟨_,_,_,_,t,_,_,body,els,_⟩=>t.hole+St.inns body+St.inns els
def St.inns:List St→Nat
 | []=>0
 | e::r=>e.inn+St.inns r
end
/-! Whether it may be. -/
mutual
def St.openB (p:Int):St→Bool
 | ⟨_,_,_,_,t,_,_,body,els,_⟩=>!(t.kind==2&&!wrB t p||!St.opensB p body||!St.opensB p els)
def St.opensB (p:Int):List St→Bool
 | []=>true
 | e::r=>e.openB p&&St.opensB p r
end
def Me.rightB (p:Int) (m:Me):Bool:=m.body.all (St.rightB · p)&&(nameB m.name&&wrB m.ret p&&vrsB m.params 5 p&&vrsB m.locals 12 p&&St.opensB p m.body)
def abB (p:Int) (o:Int×Int):Bool:=!(!owB o p||o.1 != 2&&o.1 != 3&&o.1 != 4)
def Cs.rightB (c:Cs):Bool :=
 c.params.all nameB&&(c.above.all (abB c.params.length)&&(c.methods.all (Me.rightB c.params.length)&&(nameB c.name&&decide ((c.params.length:Int)≤3)&&(c.super==[]&&(c.above.length:Int)==0||nameB c.super&&decide ((c.above.length:Int)≤3))&&vrsB c.fields 12 c.params.length&&decide ((c.methods.length:Int)≤12))))
def Cs.stmts (c:Cs):Nat:=sumOf (fun m:Me=>St.cnts m.body) c.methods
def rightB (l:List Cs):Bool:=l.all (fun c=>!(decide ((l.length:Int)>20)||!c.rightB))&&decide (((sumOf Cs.stmts l:Nat):Int)≤400)
end Go.Proofs.YtbhmfkjbaklfeaaDoor
