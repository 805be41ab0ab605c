/- The document's programs on plain data: whether they may be, and how many statements. Conditions: at most 2^20 of anything. -/
import Derived.Test.YtfbopaaambkfkaaGreatDoorMg40
set_option linter.unusedVariables false
set_option maxRecDepth 100000
set_option maxHeartbeats 8000000
set_option linter.unusedSimpArgs false
namespace Go.Proofs.YtfbopaaambkfkaaGreatDoor
open Go.RowKit
theorem Me.cnt_le (m:Me):St.cnts m.body≤m.sz:=by
 have:=(St.deeps_le m.body fun e _=>St.deep_le _ e (Nat.le_refl _)).2
 unfold Me.sz;omega
theorem Cs.stmts_le (c:Cs):c.stmts≤c.sz:=by
 have:c.stmts≤qai Me.sz c.methods:=qbb _ fun m _=>m.cnt_le
 unfold Cs.sz;omega
theorem pStmts (c:Cs) (hz:c.sz≤1048576):qaa Tryz.prog 15 [.r (Cs.at c)] (.a (.v (.int .i64 c.stmts))):=by
 obtain⟨z1,z2,z3,z4,z5,z6,z7,z8,z9⟩:=Cs.szH hz
 have hcs:=c.stmts_le
 refine qaa.go Tryz.func15 rfl Tryz.ntmps15 rfl rfl rfl (fun C hro=>?_)
 have fx:=trivial
 repeat' (first|refine stp [0,1,2,3,4,5,10,21] ?_|refine WP.cn (fun hc=>?_) (fun hc=>?_)|fail)
 refine WP.loop (α:={ k:Nat // k≤c.methods.length }) (fun y=>[(1,.a (.ptr 0 0)),(3,.a (.v (.int .i64 (qai (fun m:Me=>St.cnts m.body) (c.methods.take y.1):Nat)))),(4,.a (.v (.int .i64 y.1)))]) (fun _=>[.cell (Cs.at c)]) (fun y=>c.methods.length-y.1) ⟨0,by omega⟩ (by simp only [qal,go_sem,simprocAttr,List.take_zero,qai]) rfl ?_
 rintro⟨k,hk⟩
 dsimp only
 by_cases hlt:k<c.methods.length
 ·have hlt2:decide ((k:Int)<((c.methods.length:Nat):Int))=true:=decide_eq_true (by omega)
  obtain⟨z,hz⟩:∃z,c.methods[k]? = some z:=⟨_,List.getElem?_eq_getElem hlt⟩
  have hzm:z∈c.methods:=lm4 hz
  have hzt:=qag hz
  have hix:∀q2,ixD (some 17) q2 (.a (.sl (c.methods.map Me.at))) (.a (.v (.int .i64 (k:Int))))=some (.a (.ref (Me.at z) 0)):=fun q2=>qar rfl (by rw [List.getElem?_map,hz];rfl) (by simp only [go_sem])
  have hw:k<9223372036854775807:=by omega
  have hzz:z.sz≤1048576:=by have:=qa5 (f:=Me.sz) hzm;omega
  obtain⟨y1,y2,y3,y4,y5,y6⟩:=Me.szH hzz
  have hT0:=qdc (fun m:Me=>St.cnts m.body) c.methods (k+1)
  rw [hzt,qav,qaw] at hT0
  have hT1:qai (fun m:Me=>St.cnts m.body) (c.methods.take k)+St.cnts z.body≤c.stmts:=hT0
  have hbl:=St.szs_len z.body
  replace fx:=ai12 hlt2 (ai12 hix (ai12 hw trivial))
  repeat' (first|refine stp [0,1,2,3,4,5,10,21] ?_|refine WP.cn (fun hc=>?_) (fun hc=>?_)|fail)
  refine WP.loop (α:={ j:Nat // j≤z.body.length }) (fun y=>[(1,.a (.ptr 0 0)),(3,.a (.v (.int .i64 (qai (fun m:Me=>St.cnts m.body) (c.methods.take k)+St.cnts (z.body.take y.1):Nat)))),(4,.a (.v (.int .i64 k))),(5,.a (.v (.int .i64 y.1)))]) (fun _=>[.cell (Cs.at c)]) (fun y=>z.body.length-y.1) ⟨0,by omega⟩ (by simp only [qal,go_sem,simprocAttr,List.take_zero,St.cnts,Nat.add_zero]) rfl ?_
  rintro⟨j,hj⟩
  dsimp only
  by_cases hlj:j<z.body.length
  ·have hlt3:decide ((j:Int)<((z.body.length:Nat):Int))=true:=decide_eq_true (by omega)
   obtain⟨s,hs⟩:∃s,z.body[j]? = some s:=⟨_,List.getElem?_eq_getElem hlj⟩
   have hsm:s∈z.body:=lm4 hs
   have hst:=qag hs
   have hiz:∀q2,ixD (some 23) q2 (.a (.sl (z.body.map St.at))) (.a (.v (.int .i64 (j:Int))))=some (.a (.ref (St.at s) 0)):=fun q2=>qar rfl (by rw [List.getElem?_map,hs];rfl) (by simp only [go_sem])
   have hw2:j<9223372036854775807:=by omega
   have hT:=St.cnts_take z.body (j+1)
   rw [hst,St.cnts_app,St.cnts_one] at hT
   have hwS:IntKind.i64.wrap (((qai (fun m:Me=>St.cnts m.body) (c.methods.take k)+St.cnts (z.body.take j):Nat):Int)+(s.cnt:Int))=((qai (fun m:Me=>St.cnts m.body) (c.methods.take k)+St.cnts (z.body.take j)+s.cnt:Nat):Int):=by rw [qah (by omega) (by omega)];omega
   replace fx:=ai12 hlt3 (ai12 hix (ai12 hiz (ai12 hw2 (ai12 hwS trivial))))
   repeat' (first|refine stp [0,1,2,3,4,5,10,21] ?_|(refine stc (r1:=by exact pSize _ s (Nat.le_refl _) (by have:=St.szs_mem hsm;omega)) (r2:=?_);refine rnx ?_)|refine WP.cn (fun hc=>?_) (fun hc=>?_)|fail)
   refine⟨⟨j+1,by omega⟩,by dsimp only;omega,?_,rfl⟩
   simp only [qal,go_sem,simprocAttr,hst,St.cnts_app,St.cnts_one]
   first|done|(refine congrArg (fun q:Int=>D.a (.v (.int .i64 q))) (by omega))
  obtain rfl:j=z.body.length:=by omega
  have hlt3:decide (((z.body.length:Nat):Int)<((z.body.length:Nat):Int))=false:=decide_eq_false (by omega)
  replace fx:=ai12 hlt3 (ai12 hix (ai12 hw trivial))
  repeat' (first|refine stp [0,1,2,3,4,5,10,21] ?_|refine WP.cn (fun hc=>?_) (fun hc=>?_)|fail)
  refine⟨⟨k+1,by omega⟩,by dsimp only;omega,?_,rfl⟩
  simp only [qal,go_sem,simprocAttr,hzt,qav,qaw,List.take_length]
 obtain rfl:k=c.methods.length:=by omega
 have hlt2:decide (((c.methods.length:Nat):Int)<((c.methods.length:Nat):Int))=false:=decide_eq_false (by omega)
 repeat' (first|refine WP.seq ?_|(refine WP.reg [0,1,2,3,4,5,10,21] (by kernel_rfl) (by kernel_rfl) ?_;refine RS.run2 (by simp only [go_sem,simprocAttr,hlt2,List.take_length,qab];first|done|rfl) ?_;simp only [qao])|(first|refine RS.finT (by simp only [go_sem,simprocAttr];first|done|rfl) ?_|refine RS.fin (by simp only [go_sem,simprocAttr];first|done|rfl) ?_;(try simp only [qab,qae]))|(refine RS.call (by simp only [go_sem,simprocAttr,hlt2,List.take_length,qab];first|done|rfl) (by simp only [go_sem,List.all_cons,List.all_nil,Bool.and_true,hlt2,List.take_length,qab]) (by fail) ?_;refine RS.run2 (by simp only [go_sem,simprocAttr,hlt2,List.take_length,qab];first|done|rfl) ?_;simp only [qao])|((refine WP.cond rfl (by simp only [go_sem,simprocAttr,hlt2,List.take_length,qab];first|done|rfl) (fun hc=>?_) (fun hc=>?_))<;>try exact Bool.noConfusion hc)|(refine WP.skip ?_;(try simp only [qab,qae]))|(refine WP.exit ?_;(try simp only [qb8,qbj,qbi,ne_eq,Nat.reduceEqDiff,not_false_eq_true,reduceCtorEq,qab,qae]))|refine WP.block ?_|(refine WP.ret ?_;(try simp only [qa1,qaz]);refine ret1 rfl (by simp only [go_sem,simprocAttr,hlt2,List.take_length,qab];first|done|rfl) (by simp only [go_sem,hlt2,List.take_length,qab]) ?_)|(fail;simp only [List.take_succ_cons,List.take_zero,List.drop_succ_cons,List.drop_zero,List.take_nil,List.drop_nil];refine RQ.run2 (by simp only [go_sem,simprocAttr,hlt2,List.take_length,qab];first|done|rfl) ?_;simp only [qat])|(refine RQ.nil ?_;refine RS.run2 (by simp only [go_sem,simprocAttr,hlt2,List.take_length,qab];first|done|rfl) ?_;simp only [qao])|(refine RQ.call (by simp only [go_sem,simprocAttr,hlt2,List.take_length,qab];first|done|rfl) (by simp only [go_sem,List.all_cons,List.all_nil,Bool.and_true,hlt2,List.take_length,qab]) (by fail) ?_;refine RQ.run2 (by simp only [go_sem,simprocAttr,hlt2,List.take_length,qab];first|done|rfl) ?_;simp only [qat]))
 rfl
end Go.Proofs.YtfbopaaambkfkaaGreatDoor
