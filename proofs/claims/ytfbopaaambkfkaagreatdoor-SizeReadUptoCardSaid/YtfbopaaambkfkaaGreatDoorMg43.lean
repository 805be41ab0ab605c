/- Programs without their places, as plain data, and the law on them. No program in sight. Conditions: none. -/
import Derived.Test.YtfbopaaambkfkaaGreatDoorMg42
set_option linter.unusedVariables false
set_option maxRecDepth 100000
set_option maxHeartbeats 8000000
set_option linter.unusedSimpArgs false
namespace Go.Proofs.YtfbopaaambkfkaaGreatDoor
open Go.RowKit
mutual
def St.bare:St→St
 | ⟨k,x,y,n,t,e,args,body,els,_⟩=>⟨k,x,y,n,t,e,args,St.bares body,St.bares els,0⟩
def St.bares:List St→List St
 | []=>[]
 | s::r=>s.bare::St.bares r
end
theorem St.bare_eq (s:St):s.bare={ s with at_:=0,body:=St.bares s.body,els:=St.bares s.els }:=by cases s;rfl
theorem St.bares_map:∀l:List St,St.bares l=l.map St.bare
 | []=>rfl
 | s::r=>by rw [St.bares,St.bares_map r,List.map_cons]
def Vr.bare (v:Vr):Vr:={ v with at_:=0 }
def Me.bare (m:Me):Me:={ m with at_:=0,params:=m.params.map Vr.bare,locals:=m.locals.map Vr.bare,body:=m.body.map St.bare }
def Cs.bare (c:Cs):Cs:={ c with at_:=0,fields:=c.fields.map Vr.bare,methods:=c.methods.map Me.bare }
/-! Of the same size. -/
mutual
theorem St.sz_bare:∀s:St,s.bare.sz=s.sz
 | ⟨k,x,y,n,t,e,args,body,els,a⟩=>by
  rw [St.bare,St.sz,St.sz,St.szs_bare body,St.szs_bare els]
theorem St.szs_bare:∀l:List St,St.szs (St.bares l)=St.szs l
 | []=>rfl
 | s::r=>by rw [St.bares,St.szs,St.szs,St.sz_bare s,St.szs_bare r]
end
theorem qdd {α:Type} (f:α→Nat) (g:α→α) (h:∀x,f (g x)=f x):∀l:List α,qai f (l.map g)=qai f l
 | []=>rfl
 | x::r=>by rw [List.map_cons,qai,qai,h,qdd f g h r]
theorem Vr.sz_bare (v:Vr):v.bare.sz=v.sz:=rfl
theorem Me.sz_bare (m:Me):m.bare.sz=m.sz:=by
 unfold Me.bare Me.sz
 dsimp only
 rw [qdd _ _ Vr.sz_bare,qdd _ _ Vr.sz_bare,←St.bares_map,St.szs_bare]
theorem Cs.sz_bare (c:Cs):c.bare.sz=c.sz:=by
 unfold Cs.bare Cs.sz
 dsimp only
 rw [qdd _ _ Vr.sz_bare,qdd _ _ Me.sz_bare]
theorem bare_sz (l:List Cs):qai Cs.sz (l.map Cs.bare)=qai Cs.sz l:=qdd _ _ Cs.sz_bare l
/-! The same, but for places. -/
/-! Whether it may be. -/
end Go.Proofs.YtfbopaaambkfkaaGreatDoor
