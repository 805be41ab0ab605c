/- How many parameters a class has: the program's and the document's. Conditions: at most 2^20 classes. -/
import Derived.Test.YthkojpnjdpbcgaaGreatDoorMg23
set_option linter.unusedVariables false
set_option maxRecDepth 100000
set_option maxHeartbeats 8000000
set_option linter.unusedSimpArgs false
namespace Go.Proofs.YthkojpnjdpbcgaaGreatDoor
open Go.RowKit
def qaq (p:List Cs) (s:List UInt8):Int:=if qay p s<0 then -1 else ((p[(qay p s).toNat]?).map fun c=>(c.params.length:Int)).getD 0
theorem qhx {p:List Cs} {s:List UInt8} (h:qay p s = -1):qaq p s = -1:=by unfold qaq;rw [h];rfl
theorem qf2 {p:List Cs} {s:List UInt8} {j:Nat} {z:Cs} (h:qay p s=(j:Int)) (hz:p[j]? = some z):qaq p s=(z.params.length:Int):=by
 unfold qaq;rw [h,if_neg (by omega),Int.toNat_natCast,hz];rfl
theorem ptArity (p:List Cs) (s:List UInt8) (hn:p.length≤1048576):qab Tryz.prog 136 [.a (.sl (p.map Cs.at)),.a (.v (.string (bs s)))] (.a (.v (.int .i64 (qaq p s)))):=by
 rcases qc3 p s with hf|⟨j,z,hz,hzn,hf⟩
 ·rw [qhx hf]
  refine qab.go Tryz.func136 rfl Tryz.ntmps136 rfl rfl rfl (fun C hro=>?_)
  have fx:=trivial
  replace fx:=And.intro hf trivial
  repeat' (first|refine stp [0,1,4,5,10] ?_|(refine RS.lC ?_;refine rnx ?_)|(refine RS.xC ?_;refine rnx ?_)|(refine stc (r1:=by exact qg8 p s hn) (r2:=?_);refine rnx ?_)|refine WP.cn (fun hc=>?_) (fun hc=>?_)|fail)
  all_goals rfl
 ·rw [qf2 hf hz]
  have hj0:decide ((j:Int)<0)=false:=decide_eq_false (by omega)
  have hjx:∀q2,ixD (some 7) q2 (.a (.sl (p.map Cs.at))) (.a (.v (.int .i64 (j:Int))))=some (.a (.ref (Cs.at z) 0)):=fun q2=>qaw rfl (by rw [List.getElem?_map,hz];rfl) (by simp only [go_sem])
  refine qab.go Tryz.func136 rfl Tryz.ntmps136 rfl rfl rfl (fun C hro=>?_)
  have fx:=trivial
  replace fx:=And.intro hf (And.intro hj0 (And.intro hjx trivial))
  repeat' (first|refine stp [0,1,4,5,10] ?_|(refine RS.lC ?_;refine rnx ?_)|(refine RS.xC ?_;refine rnx ?_)|(refine stc (r1:=by exact qg8 p s hn) (r2:=?_);refine rnx ?_)|refine WP.cn (fun hc=>?_) (fun hc=>?_)|fail)
  all_goals first|rfl|simp only [List.length_map]
theorem pr13Arity (p:List Cs) (s:List UInt8) (hn:p.length≤1048576):qab Tryz.prog 84 [.a (.sl (p.map Cs.at)),.a (.v (.string (bs s)))] (.a (.v (.int .i64 (qaq p s)))):=by
 rcases qc3 p s with hf|⟨j,z,hz,hzn,hf⟩
 ·rw [qhx hf]
  refine qab.go Tryz.func84 rfl Tryz.ntmps84 rfl rfl rfl (fun C hro=>?_)
  have fx:=trivial
  replace fx:=And.intro hf trivial
  repeat' (first|refine stp [0,1,4,5,10] ?_|(refine RS.lC ?_;refine rnx ?_)|(refine RS.xC ?_;refine rnx ?_)|(refine stc (r1:=by exact qd0 p s hn) (r2:=?_);refine rnx ?_)|refine WP.cn (fun hc=>?_) (fun hc=>?_)|fail)
  all_goals rfl
 ·rw [qf2 hf hz]
  have hj0:decide ((j:Int)<0)=false:=decide_eq_false (by omega)
  have hjx:∀q2,ixD (some 7) q2 (.a (.sl (p.map Cs.at))) (.a (.v (.int .i64 (j:Int))))=some (.a (.ref (Cs.at z) 0)):=fun q2=>qaw rfl (by rw [List.getElem?_map,hz];rfl) (by simp only [go_sem])
  refine qab.go Tryz.func84 rfl Tryz.ntmps84 rfl rfl rfl (fun C hro=>?_)
  have fx:=trivial
  replace fx:=And.intro hf (And.intro hj0 (And.intro hjx trivial))
  repeat' (first|refine stp [0,1,4,5,10] ?_|(refine RS.lC ?_;refine rnx ?_)|(refine RS.xC ?_;refine rnx ?_)|(refine stc (r1:=by exact qd0 p s hn) (r2:=?_);refine rnx ?_)|refine WP.cn (fun hc=>?_) (fun hc=>?_)|fail)
  all_goals first|rfl|simp only [List.length_map]
theorem qhw {p:List Cs} (s:List UInt8) (hz:∀c∈p,c.params.length≤1048576):IntKind.i64.wrap (qaq p s+1)=qaq p s+1:=by
 rcases qc3 p s with hf|⟨j,z,hzz,hzn,hf⟩
 ·rw [qhx hf];rfl
 ·rw [qf2 hf hzz]
  have:=hz z (lm4 hzz)
  exact qaz (by omega)
end Go.Proofs.YthkojpnjdpbcgaaGreatDoor
