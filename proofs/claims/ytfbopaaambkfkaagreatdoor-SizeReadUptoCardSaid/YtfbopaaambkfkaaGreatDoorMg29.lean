/- The program's own variables, on plain data: pointers to what they hold, and slices of them. Conditions: none. -/
import Derived.Test.YtfbopaaambkfkaaGreatDoorMg20
import Derived.Test.YtfbopaaambkfkaaGreatDoorMg27
import Derived.Test.YtfbopaaambkfkaaGreatDoorMg28
import Derived.Test.YtfbopaaambkfkaaGreatDoorMg23
set_option linter.unusedVariables false
set_option maxRecDepth 100000
set_option maxHeartbeats 8000000
set_option linter.unusedSimpArgs false
namespace Go.Proofs.YtfbopaaambkfkaaGreatDoor
open Go.RowKit
section
variable {P:Program} {C:Cx P} {ops:Array Oper} {r:List Oper} {e:Nat→D} {st:List Bx} {dst:Option Nat} {ty T:TypeId} {pos:String} {after:Array Edge} {K:(Nat→D)→List Bx→Prop} {KQ:(Nat→D)→Prop} {guard:Option (Nat×Bool)} {rows:List (List A)} {x:Operand}
end
end Go.Proofs.YtfbopaaambkfkaaGreatDoor
namespace Go.Proofs.YtfbopaaambkfkaaGreatDoor
open Go.RowKit
def Tok.at (t:Tok):List A:=[.v (.int .i64 t.kind),.v (.string (bs t.text)),.v (.int .i64 t.pos)]
section
variable (t:Tok)
@[go_sem] theorem Tok.len':(Tok.at t).length=3:=rfl
@[go_sem] theorem Tok.cl:(Tok.at t).all clA=true:=rfl
@[go_sem] theorem Tok.see (st:List Bx):(Tok.at t).map (seeA st)=Tok.at t:=rfl
@[go_sem] theorem Tok.w:qap (some 3) (Tok.at t) 0=some (.r (Tok.at t)):=qca rfl
@[go_sem] theorem Tok.g0:qap none (Tok.at t) 0=some (.a (.v (.int .i64 t.kind))):=rfl
@[go_sem] theorem Tok.g1:qap none (Tok.at t) 1=some (.a (.v (.string (bs t.text)))):=rfl
@[go_sem] theorem Tok.g2:qap none (Tok.at t) 2=some (.a (.v (.int .i64 t.pos))):=rfl
@[go_sem] theorem Tok.pz:qak [.v (.int .i64 0),.v (.string ⟨#[]⟩),.v (.int .i64 0)] 0 (Tok.at t)=Tok.at t:=rfl
end
section
variable (l:List Tok) (s:Ps)
end
def Pt.at (x:Pt):List A:=Ex.at x.e++[.v (.int .i64 x.d)]
section
variable (x:Pt)
@[go_sem] theorem Pt.len:(Pt.at x).length=5:=by unfold Pt.at;rw [List.length_append,Ex.len];rfl
end
section
variable {P:Program} {C:Cx P} {n:Nat} {O:D→List Bx→D→Prop} {e:Nat→D} {st:List Bx} {d d0 d2:D}
end
section
variable {P:Program} {C:Cx P} {ops:Array Oper} {r:List Oper} {e:Nat→D} {st:List Bx} {dst:Option Nat} {ty T:TypeId} {pos:String} {after:Array Edge} {K:(Nat→D)→List Bx→Prop} {guard:Option (Nat×Bool)} {row:List A} {parts:List (Nat×Operand)}
end
theorem qaa.scalT {P:Program} {f:FuncId} {xs zs:List Value} (he:∀(args:Array Value) (W:World),(callFunc f args).run P W=.ok (.enter f args) W) (hz:zs.all qdw=true)
  (h:∀w:World,Calls P f xs.toArray w fun e w'=>e=.returned (.tuple zs.toArray)∧Grw w w'):qaa P f (xs.map fun x=>.a (.v x)) (.t (zs.map fun z=>.a (.v z))):=by
 refine⟨he,fun w x vs _ hg hl hr=>?_⟩
 have:vs=xs:=by
  apply List.ext_getElem?
  intro j
  simp at hl
  by_cases hj:j<xs.length
  ·have:=hr j (.a (.v xs[j])) (by rw [List.getElem?_map,List.getElem?_eq_getElem hj];rfl)
   rw [List.getD_eq_getElem?_getD,List.getElem?_eq_getElem (by omega)] at this
   rw [List.getElem?_eq_getElem (by omega),List.getElem?_eq_getElem hj]
   exact congrArg some this.v_inv.1
  ·rw [List.getElem?_eq_none (by omega),List.getElem?_eq_none (by omega)]
 subst this
 refine (h w).mono ?_
 rintro e w' ⟨rfl,hq⟩
 refine⟨_,rfl,hq,.t _ zs (by simp) fun j d hd=>?_⟩
 rw [List.getElem?_map] at hd
 cases hzj:zs[j]? with
 | none=>rw [hzj] at hd;cases hd
 | some z =>
  rw [hzj] at hd
  injection hd with hd
  subst hd
  rw [List.getD_eq_getElem?_getD,hzj]
  exact .v (List.all_eq_true.1 hz z (lm4 hzj))
end Go.Proofs.YtfbopaaambkfkaaGreatDoor
