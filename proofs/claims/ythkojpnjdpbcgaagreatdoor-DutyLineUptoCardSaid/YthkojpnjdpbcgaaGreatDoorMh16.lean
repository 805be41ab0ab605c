/- Classes by their names, on plain data: table.Find, Arity, and the document's. Conditions: at most 2^20 classes. -/
import Derived.Test.YthkojpnjdpbcgaaGreatDoorMh11
import Derived.Test.YthkojpnjdpbcgaaGreatDoorMh15
set_option linter.unusedVariables false
set_option maxRecDepth 100000
set_option maxHeartbeats 8000000
set_option linter.unusedSimpArgs false
namespace Go.Proofs.YthkojpnjdpbcgaaGreatDoor
open Go.RowKit
def qa4 (p:List Cs) (s:List UInt8):Int:=ixOf (fun c:Cs=>c.name==s) p 0
theorem qev {α:Type} (q:α→Bool):∀(l:List α) (k:Nat),ixOf q l k = -1∨∃j z,l[j]? = some z∧q z=true∧ixOf q l k=((k+j:Nat):Int)
 | [],k=>.inl rfl
 | x::r,k=>by
  rw [ixOf]
  cases hx:q x
  ·rw [if_neg (by simp)]
   rcases qev q r (k+1) with h|⟨j,z,h1,h2,h3⟩
   ·exact .inl h
   ·exact .inr ⟨j+1,z,by simpa using h1,h2,by rw [h3];congr 1;omega⟩
  ·rw [if_pos rfl];exact .inr ⟨0,x,rfl,hx,rfl⟩
theorem qdf (p:List Cs) (s:List UInt8):qa4 p s = -1∨∃(j:Nat) (z:Cs),p[j]? = some z∧z.name=s∧qa4 p s=(j:Int):=by
 rcases qev (fun c:Cs=>c.name==s) p 0 with h|⟨j,z,h1,h2,h3⟩
 ·exact .inl h
 ·exact .inr ⟨j,z,h1,by simpa using h2,by rw [qa4,h3,Nat.zero_add]⟩
theorem ptFind1 (c:Cs) (s:List UInt8):qaa Tryz.prog 187 [.r (Cs.at c),.a (.ref [.v (.string (bs s))] 0)] (.a (.v (.bool (c.name==s)))):=by
 refine qaa.go Tryz.func187 rfl Tryz.ntmps187 rfl rfl rfl (fun C hro=>?_)
 have fx:=trivial
 repeat' (first|refine stp [0,1,2,3] ?_|fail)
 rfl
theorem qja (p:List Cs) (s:List UInt8) (hn:p.length≤1048576):qaa Tryz.prog 135 [.a (.sl (p.map Cs.at)),.a (.v (.string (bs s)))] (.a (.v (.int .i64 (qa4 p s)))):=by
 refine qaa.go Tryz.func135 rfl Tryz.ntmps135 rfl rfl rfl (fun C hro=>?_)
 have fx:=trivial
 repeat' (first|refine stp [0,1,3,4] ?_|(refine stc (r1:=by exact pIxClass (fun c=>c.name==s) p 187 [.ref [.v (.string (bs s))] 0] rfl hn (fun k _=>ptFind1 k s)) (r2:=?_);refine rnx ?_)|fail)
 rfl
theorem qep (p:List Cs) (s:List UInt8) (hn:p.length≤1048576):qaa Tryz.prog 139 [.a (.sl (p.map Cs.at)),.a (.v (.string (bs s)))] (.a (.v (.int .i64 (qa4 p s)))):=by
 refine qaa.go Tryz.func139 rfl Tryz.ntmps139 rfl rfl rfl (fun C hro=>?_)
 have fx:=trivial
 repeat' (first|refine stp [0,1,4,5,9,18] ?_|fail)
 refine WP.loop (α:={ k:Nat // k≤p.length∧(p.take k).any (fun c:Cs=>c.name==s)=false }) (fun y=>[(0,.a (.sl (p.map Cs.at))),(1,.a (.v (.string (bs s)))),(5,.a (.v (.int .i64 (y.1:Nat))))]) (fun _=>[]) (fun y=>p.length-y.1) ⟨0,by omega,rfl⟩ (by simp only [qag,go_sem,simprocAttr];first|done|rfl) rfl ?_
 rintro⟨k,hk,hinv⟩
 dsimp only
 by_cases hlt:k<p.length
 ·have hlt2:decide ((k:Int)<((p.length:Nat):Int))=true:=decide_eq_true (by omega)
  obtain⟨z,hz⟩:∃z,p[k]? = some z:=⟨_,List.getElem?_eq_getElem hlt⟩
  have hzm:z∈p:=lm4 hz
  have hzt:=qan hz
  have hix:∀q2,ixD (some 7) q2 (.a (.sl (p.map Cs.at))) (.a (.v (.int .i64 (k:Int))))=some (.a (.ref (Cs.at z) 0)):=fun q2=>qaq rfl (by rw [List.getElem?_map,hz];rfl) (by simp only [go_sem])
  have hwu:=qap (k:=k) (by omega)
  replace fx:=ai15 hlt2 (ai15 hix (ai15 hwu trivial))
  repeat' (first|refine stp [0,1,4,5,9,18] ?_|refine WP.cn (fun hc=>?_) (fun hc=>?_)|fail)
  ·exact qaw (by rw [qa4,qdb _ p k 0 z hz hinv hc,Nat.zero_add])
  ·refine⟨⟨k+1,by omega,by rw [hzt,List.any_append,hinv];simpa using hc⟩,by dsimp only;omega,by simp only [qag,go_sem,simprocAttr],rfl⟩
 obtain rfl:k=p.length:=by omega
 rw [List.take_length] at hinv
 have hlt2:decide ((p.length:Int)<(p.length:Int))=false:=decide_eq_false (by omega)
 replace fx:=ai15 hlt2 trivial
 repeat' (first|refine stp [0,1,4,5,9,18] ?_|fail)
 exact qaw (by rw [qa4,qbz _ p 0 hinv])
end Go.Proofs.YthkojpnjdpbcgaaGreatDoor
