/- Classes by their names, on plain data: table.Find, Arity, and the document's. Conditions: at most 2^20 classes. -/
import Derived.Test.YthkojpnjdpbcgaaGreatDoorMl11
import Derived.Test.YthkojpnjdpbcgaaGreatDoorMl15
set_option linter.unusedVariables false
set_option maxRecDepth 100000
set_option maxHeartbeats 8000000
set_option linter.unusedSimpArgs false
namespace Go.Proofs.YthkojpnjdpbcgaaGreatDoor
open Go.RowKit
def qa3 (p:List Cs) (s:List UInt8):Int:=ixOf (fun c:Cs=>c.name==s) p 0
theorem qfc {α:Type} (q:α→Bool):∀(l:List α) (k:Nat),ixOf q l k = -1∨∃j z,l[j]? = some z∧q z=true∧ixOf q l k=((k+j:Nat):Int)
 | [],k=>.inl rfl
 | x::r,k=>by
  rw [ixOf]
  cases hx:q x
  ·rw [if_neg (by simp)]
   rcases qfc q r (k+1) with h|⟨j,z,h1,h2,h3⟩
   ·exact .inl h
   ·exact .inr ⟨j+1,z,by simpa using h1,h2,by rw [h3];congr 1;omega⟩
  ·rw [if_pos rfl];exact .inr ⟨0,x,rfl,hx,rfl⟩
theorem qff (p:List Cs) (s:List UInt8):qa3 p s = -1∨∃(j:Nat) (z:Cs),p[j]? = some z∧z.name=s∧qa3 p s=(j:Int):=by
 rcases qfc (fun c:Cs=>c.name==s) p 0 with h|⟨j,z,h1,h2,h3⟩
 ·exact .inl h
 ·exact .inr ⟨j,z,h1,by simpa using h2,by rw [qa3,h3,Nat.zero_add]⟩
theorem ptFind1 (c:Cs) (s:List UInt8):qaa Tryz.prog 187 [.r (Cs.at c),.a (.ref [.v (.string (bs s))] 0)] (.a (.v (.bool (c.name==s)))):=by
 refine qaa.go Tryz.func187 rfl Tryz.ntmps187 rfl rfl rfl (fun C hro=>?_)
 have fx:=trivial
 repeat' (first|refine stp [0,1,2,3] ?_|fail)
 rfl
theorem qig (p:List Cs) (s:List UInt8) (hn:p.length≤1048576):qaa Tryz.prog 135 [.a (.sl (p.map Cs.at)),.a (.v (.string (bs s)))] (.a (.v (.int .i64 (qa3 p s)))):=by
 refine qaa.go Tryz.func135 rfl Tryz.ntmps135 rfl rfl rfl (fun C hro=>?_)
 have fx:=trivial
 repeat' (first|refine stp [0,1,3,4] ?_|(refine stc (r1:=by exact pIxClass (fun c=>c.name==s) p 187 [.ref [.v (.string (bs s))] 0] rfl hn (fun k _=>ptFind1 k s)) (r2:=?_);refine rnx ?_)|fail)
 rfl
end Go.Proofs.YthkojpnjdpbcgaaGreatDoor
