/- The document's programs on plain data: whether they may be, and how many statements. Conditions: at most 2^20 of anything. -/
import Derived.Test.YtibdalkdgjghoaaGreatDoorMg28
set_option linter.unusedVariables false
set_option maxRecDepth 100000
set_option maxHeartbeats 8000000
set_option linter.unusedSimpArgs false
namespace Go.Proofs.YtibdalkdgjghoaaGreatDoor
open Go.RowKit
theorem Me.cnt_le (m:Me):St.cnts m.body≤m.sz:=by
 have:=(St.deeps_le m.body fun e _=>St.deep_le _ e (Nat.le_refl _)).2
 unfold Me.sz;omega
theorem Cs.stmts_le (c:Cs):c.stmts≤c.sz:=by
 have:c.stmts≤sumOf Me.sz c.methods:=sumOf_le _ fun m _=>m.cnt_le
 unfold Cs.sz;omega
theorem pStmts (c:Cs) (hz:c.sz≤1048576):DPure Tryz.prog 98 [.r (Cs.at c)] (.a (.v (.int .i64 c.stmts))):=by
 obtain⟨z1,z2,z3,z4,z5,z6,z7,z8,z9⟩:=Cs.szH hz
 have hcs:=c.stmts_le
 refine DPure.go Tryz.func98 rfl Tryz.ntmps98 rfl rfl rfl (fun C hro=>?_)
 have fx:=trivial
 repeat' (first|refine stp [0,1,2,3,4,5,10,21] ?_|refine WP.cn (fun hc=>?_) (fun hc=>?_)|fail)
 refine WP.loop (α:={ k:Nat // k≤c.methods.length }) (fun y=>[(1,.a (.ptr 0 0)),(3,.a (.v (.int .i64 (sumOf (fun m:Me=>St.cnts m.body) (c.methods.take y.1):Nat)))),(4,.a (.v (.int .i64 y.1)))]) (fun _=>[.cell (Cs.at c)]) (fun y=>c.methods.length-y.1) ⟨0,by omega⟩ (by simp only [Agree,go_sem,simprocAttr,List.take_zero,sumOf]) rfl ?_
 rintro⟨k,hk⟩
 dsimp only
 by_cases hlt:k<c.methods.length
 ·have hlt2:decide ((k:Int)<((c.methods.length:Nat):Int))=true:=decide_eq_true (by omega)
  obtain⟨z,hz⟩:∃z,c.methods[k]? = some z:=⟨_,List.getElem?_eq_getElem hlt⟩
  have hzm:z∈c.methods:=List.mem_of_getElem? hz
  have hzt:=take_snocA hz
  have hix:∀q2,ixD (some 17) q2 (.a (.sl (c.methods.map Me.at))) (.a (.v (.int .i64 (k:Int))))=some (.a (.ref (Me.at z) 0)):=fun q2=>ixD_at rfl (by rw [List.getElem?_map,hz];rfl) (by simp only [go_sem])
  have hw:k<9223372036854775807:=by omega
  have hzz:z.sz≤1048576:=by have:=sumOf_mem (f:=Me.sz) hzm;omega
  obtain⟨y1,y2,y3,y4,y5,y6⟩:=Me.szH hzz
  have hT0:=sumOf_take (fun m:Me=>St.cnts m.body) c.methods (k+1)
  rw [hzt,sumOf_app,sumOf_one] at hT0
  have hT1:sumOf (fun m:Me=>St.cnts m.body) (c.methods.take k)+St.cnts z.body≤c.stmts:=hT0
  have hbl:=St.szs_len z.body
  replace fx:=And.intro hlt2 (And.intro hix (And.intro hw trivial))
  repeat' (first|refine stp [0,1,2,3,4,5,10,21] ?_|refine WP.cn (fun hc=>?_) (fun hc=>?_)|fail)
  refine WP.loop (α:={ j:Nat // j≤z.body.length }) (fun y=>[(1,.a (.ptr 0 0)),(3,.a (.v (.int .i64 (sumOf (fun m:Me=>St.cnts m.body) (c.methods.take k)+St.cnts (z.body.take y.1):Nat)))),(4,.a (.v (.int .i64 k))),(5,.a (.v (.int .i64 y.1)))]) (fun _=>[.cell (Cs.at c)]) (fun y=>z.body.length-y.1) ⟨0,by omega⟩ (by simp only [Agree,go_sem,simprocAttr,List.take_zero,St.cnts,Nat.add_zero]) rfl ?_
  rintro⟨j,hj⟩
  dsimp only
  by_cases hlj:j<z.body.length
  ·have hlt3:decide ((j:Int)<((z.body.length:Nat):Int))=true:=decide_eq_true (by omega)
   obtain⟨s,hs⟩:∃s,z.body[j]? = some s:=⟨_,List.getElem?_eq_getElem hlj⟩
   have hsm:s∈z.body:=List.mem_of_getElem? hs
   have hst:=take_snocA hs
   have hiz:∀q2,ixD (some 23) q2 (.a (.sl (z.body.map St.at))) (.a (.v (.int .i64 (j:Int))))=some (.a (.ref (St.at s) 0)):=fun q2=>ixD_at rfl (by rw [List.getElem?_map,hs];rfl) (by simp only [go_sem])
   have hw2:j<9223372036854775807:=by omega
   have hT:=St.cnts_take z.body (j+1)
   rw [hst,St.cnts_app,St.cnts_one] at hT
   have hwS:IntKind.i64.wrap (((sumOf (fun m:Me=>St.cnts m.body) (c.methods.take k)+St.cnts (z.body.take j):Nat):Int)+(s.cnt:Int))=((sumOf (fun m:Me=>St.cnts m.body) (c.methods.take k)+St.cnts (z.body.take j)+s.cnt:Nat):Int):=by rw [wrap64 (by omega) (by omega)];omega
   replace fx:=And.intro hlt3 (And.intro hix (And.intro hiz (And.intro hw2 (And.intro hwS trivial))))
   repeat' (first|refine stp [0,1,2,3,4,5,10,21] ?_|(refine stc (r1:=by exact pSize _ s (Nat.le_refl _) (by have:=St.szs_mem hsm;omega)) (r2:=?_);refine rnx ?_)|refine WP.cn (fun hc=>?_) (fun hc=>?_)|fail)
   refine⟨⟨j+1,by omega⟩,by dsimp only;omega,?_,rfl⟩
   simp only [Agree,go_sem,simprocAttr,hst,St.cnts_app,St.cnts_one]
   first|done|(refine congrArg (fun q:Int=>D.a (.v (.int .i64 q))) (by omega))
  obtain rfl:j=z.body.length:=by omega
  have hlt3:decide (((z.body.length:Nat):Int)<((z.body.length:Nat):Int))=false:=decide_eq_false (by omega)
  replace fx:=And.intro hlt3 (And.intro hix (And.intro hw trivial))
  repeat' (first|refine stp [0,1,2,3,4,5,10,21] ?_|refine WP.cn (fun hc=>?_) (fun hc=>?_)|fail)
  refine⟨⟨k+1,by omega⟩,by dsimp only;omega,?_,rfl⟩
  simp only [Agree,go_sem,simprocAttr,hzt,sumOf_app,sumOf_one,List.take_length]
 obtain rfl:k=c.methods.length:=by omega
 have hlt2:decide (((c.methods.length:Nat):Int)<((c.methods.length:Nat):Int))=false:=decide_eq_false (by omega)
 repeat' (first|refine WP.seq ?_|(refine WP.reg [0,1,2,3,4,5,10,21] (by kernel_rfl) (by kernel_rfl) ?_;refine RS.run2 (by simp only [go_sem,simprocAttr,hlt2,List.take_length,thenQ_n];first|done|rfl) ?_;simp only [RSr_mk])|(first|refine RS.finT (by simp only [go_sem,simprocAttr];first|done|rfl) ?_|refine RS.fin (by simp only [go_sem,simprocAttr];first|done|rfl) ?_;(try simp only [thenQ_n,blockQ_n]))|(refine RS.call (by simp only [go_sem,simprocAttr,hlt2,List.take_length,thenQ_n];first|done|rfl) (by simp only [go_sem,List.all_cons,List.all_nil,Bool.and_true,hlt2,List.take_length,thenQ_n]) (by fail) ?_;refine RS.run2 (by simp only [go_sem,simprocAttr,hlt2,List.take_length,thenQ_n];first|done|rfl) ?_;simp only [RSr_mk])|((refine WP.cond rfl (by simp only [go_sem,simprocAttr,hlt2,List.take_length,thenQ_n];first|done|rfl) (fun hc=>?_) (fun hc=>?_))<;>try exact Bool.noConfusion hc)|(refine WP.skip ?_;(try simp only [thenQ_n,blockQ_n]))|(refine WP.exit ?_;(try simp only [thenQ_e,blockQ_e,blockQ_o,ne_eq,Nat.reduceEqDiff,not_false_eq_true,reduceCtorEq,thenQ_n,blockQ_n]))|refine WP.block ?_|(refine WP.ret ?_;(try simp only [thenQ_r,blockQ_r]);refine ret1 rfl (by simp only [go_sem,simprocAttr,hlt2,List.take_length,thenQ_n];first|done|rfl) (by simp only [go_sem,hlt2,List.take_length,thenQ_n]) ?_)|(fail;simp only [List.take_succ_cons,List.take_zero,List.drop_succ_cons,List.drop_zero,List.take_nil,List.drop_nil];refine RQ.run2 (by simp only [go_sem,simprocAttr,hlt2,List.take_length,thenQ_n];first|done|rfl) ?_;simp only [RQr_mk])|(refine RQ.nil ?_;refine RS.run2 (by simp only [go_sem,simprocAttr,hlt2,List.take_length,thenQ_n];first|done|rfl) ?_;simp only [RSr_mk])|(refine RQ.call (by simp only [go_sem,simprocAttr,hlt2,List.take_length,thenQ_n];first|done|rfl) (by simp only [go_sem,List.all_cons,List.all_nil,Bool.and_true,hlt2,List.take_length,thenQ_n]) (by fail) ?_;refine RQ.run2 (by simp only [go_sem,simprocAttr,hlt2,List.take_length,thenQ_n];first|done|rfl) ?_;simp only [RQr_mk]))
 rfl
theorem pClass (c:Cs) (hz:c.sz≤1048576):DPure Tryz.prog 97 [.r (Cs.at c)] (.a (.v (.bool c.rightB))):=by
 obtain⟨z1,z2,z3,z4,z5,z6,z7,z8,z9⟩:=Cs.szH hz
 have hse:c.rightB=(c.params.all nameB&&(c.above.all (abB c.params.length)&&(c.methods.all (Me.rightB c.params.length)&&(nameB c.name&&decide ((c.params.length:Int)≤3)&&(c.super==[]&&(c.above.length:Int)==0||nameB c.super&&decide ((c.above.length:Int)≤3))&&vrsB c.fields 12 c.params.length&&decide ((c.methods.length:Int)≤12))))):=rfl
 refine DPure.go Tryz.func97 rfl Tryz.ntmps97 rfl rfl rfl (fun C hro=>?_)
 have fx:=trivial
 repeat' (first|refine stp [0,1,2,3,4,5,6,7,13,22,27,55,60,70] ?_|refine WP.cn (fun hc=>?_) (fun hc=>?_)|fail)
 refine WP.loop (α:={ k:Nat // k≤(c.params).length∧((c.params).take k).all (nameB)=true }) (fun y=>[(1,.a (.ptr 0 0)),(3,.a (.v (.int .i64 (c.params.length:Nat)))),(4,.a (.v (.int .i64 y.1)))]) (fun _=>[.cell (Cs.at c)]) (fun y=>(c.params).length-y.1) ⟨0,by omega,rfl⟩ (by simp only [Agree,go_sem,simprocAttr]) rfl ?_
 rintro⟨k,hk,hinv⟩
 dsimp only
 by_cases hlt:k<(c.params).length
 ·have hlt2:decide ((k:Int)<(((c.params).length:Nat):Int))=true:=decide_eq_true (by omega)
  obtain⟨z,hz⟩:∃z,(c.params)[k]? = some z:=⟨_,List.getElem?_eq_getElem hlt⟩
  have hzm:z∈(c.params):=List.mem_of_getElem? hz
  have hzt:=take_snocA hz
  have hix:∀q2,ixD (some 1) q2 (.a (.sl ((c.params).map strAt))) (.a (.v (.int .i64 (k:Int))))=some (.a (.ref (strAt z) 0)):=fun q2=>ixD_at rfl (by rw [List.getElem?_map,hz];rfl) (by simp only [go_sem])
  have hw:k<9223372036854775807:=by omega
  skip
  replace fx:=And.intro hlt2 (And.intro hix (And.intro hw trivial))
  repeat' (first|refine stp [0,1,2,3,4,5,6,7,13,22,27,55,60,70] ?_|(refine stc (r1:=by exact pName z (by have:=z4 z hzm;omega)) (r2:=?_);refine rnx ?_)|refine WP.cn (fun hc=>?_) (fun hc=>?_)|fail)
  ·refine bool_eq ?_
   rw [hse,show (c.params).all (nameB)=false by rw [List.all_eq_false];exact⟨z,hzm,by simpa using hc⟩];rfl
  ·refine⟨⟨k+1,by omega,by rw [hzt,List.all_append,hinv];simpa using hc⟩,by dsimp only;omega,?_,rfl⟩
   simp only [Agree,go_sem,simprocAttr]
 obtain rfl:k=(c.params).length:=by omega
 rw [List.take_length] at hinv
 have hlt2:decide (((c.params).length:Int)<((c.params).length:Int))=false:=decide_eq_false (by omega)
 rw [hinv,Bool.true_and] at hse
 replace fx:=And.intro hlt2 trivial
 repeat' (first|refine stp [0,1,2,3,4,5,6,7,13,22,27,55,60,70] ?_|refine WP.cn (fun hc=>?_) (fun hc=>?_)|fail)
 refine WP.loop (α:={ k:Nat // k≤(c.above).length∧((c.above).take k).all ((abB c.params.length))=true }) (fun y=>[(1,.a (.ptr 0 0)),(3,.a (.v (.int .i64 (c.params.length:Nat)))),(5,.a (.v (.int .i64 y.1)))]) (fun _=>[.cell (Cs.at c)]) (fun y=>(c.above).length-y.1) ⟨0,by omega,rfl⟩ (by simp only [Agree,go_sem,simprocAttr]) rfl ?_
 rintro⟨k,hk,hinv⟩
 dsimp only
 by_cases hlt:k<(c.above).length
 ·have hlt2:decide ((k:Int)<(((c.above).length:Nat):Int))=true:=decide_eq_true (by omega)
  obtain⟨z,hz⟩:∃z,(c.above)[k]? = some z:=⟨_,List.getElem?_eq_getElem hlt⟩
  have hzm:z∈(c.above):=List.mem_of_getElem? hz
  have hzt:=take_snocA hz
  have hix:∀q2,ixD (some 2) q2 (.a (.sl ((c.above).map owAt))) (.a (.v (.int .i64 (k:Int))))=some (.a (.ref (owAt z) 0)):=fun q2=>ixD_at rfl (by rw [List.getElem?_map,hz];rfl) (by simp only [go_sem])
  have hw:k<9223372036854775807:=by omega
  skip
  replace fx:=And.intro hlt2 (And.intro hix (And.intro hw trivial))
  repeat' (first|refine stp [0,1,2,3,4,5,6,7,13,22,27,55,60,70] ?_|(refine stc (r1:=by exact pOwRight z _) (r2:=?_);refine rnx ?_)|refine WP.cn (fun hc=>?_) (fun hc=>?_)|fail)
  ·refine bool_eq ?_
   rw [hse,show (c.above).all ((abB c.params.length))=false by rw [List.all_eq_false];exact⟨z,hzm,by simp only [abB,List.all_cons,List.all_nil,Bool.and_true,Bool.true_and];rw [hc];simp⟩];rfl
  ·refine⟨⟨k+1,by omega,by rw [hzt,List.all_append,hinv];simp only [abB,List.all_cons,List.all_nil,Bool.and_true,Bool.true_and];rw [hc];simp⟩,by dsimp only;omega,?_,rfl⟩
   simp only [Agree,go_sem,simprocAttr]
 obtain rfl:k=(c.above).length:=by omega
 rw [List.take_length] at hinv
 have hlt2:decide (((c.above).length:Int)<((c.above).length:Int))=false:=decide_eq_false (by omega)
 rw [hinv,Bool.true_and] at hse
 replace fx:=And.intro hlt2 trivial
 repeat' (first|refine stp [0,1,2,3,4,5,6,7,13,22,27,55,60,70] ?_|refine WP.cn (fun hc=>?_) (fun hc=>?_)|fail)
 refine WP.loop (α:={ k:Nat // k≤(c.methods).length∧((c.methods).take k).all ((Me.rightB c.params.length))=true }) (fun y=>[(1,.a (.ptr 0 0)),(3,.a (.v (.int .i64 (c.params.length:Nat)))),(7,.a (.v (.int .i64 y.1)))]) (fun _=>[.cell (Cs.at c)]) (fun y=>(c.methods).length-y.1) ⟨0,by omega,rfl⟩ (by simp only [Agree,go_sem,simprocAttr]) rfl ?_
 rintro⟨k,hk,hinv⟩
 dsimp only
 by_cases hlt:k<(c.methods).length
 ·have hlt2:decide ((k:Int)<(((c.methods).length:Nat):Int))=true:=decide_eq_true (by omega)
  obtain⟨z,hz⟩:∃z,(c.methods)[k]? = some z:=⟨_,List.getElem?_eq_getElem hlt⟩
  have hzm:z∈(c.methods):=List.mem_of_getElem? hz
  have hzt:=take_snocA hz
  have hix:∀q2,ixD (some 17) q2 (.a (.sl ((c.methods).map Me.at))) (.a (.v (.int .i64 (k:Int))))=some (.a (.ref (Me.at z) 0)):=fun q2=>ixD_at rfl (by rw [List.getElem?_map,hz];rfl) (by simp only [go_sem])
  have hw:k<9223372036854775807:=by omega
  skip
  replace fx:=And.intro hlt2 (And.intro hix (And.intro hw trivial))
  repeat' (first|refine stp [0,1,2,3,4,5,6,7,13,22,27,55,60,70] ?_|(refine stc (r1:=by exact pMethod z _ (by have:=sumOf_mem (f:=Me.sz) hzm;omega)) (r2:=?_);refine rnx ?_)|refine WP.cn (fun hc=>?_) (fun hc=>?_)|fail)
  ·refine bool_eq ?_
   rw [hse,show (c.methods).all ((Me.rightB c.params.length))=false by rw [List.all_eq_false];exact⟨z,hzm,by simpa using hc⟩];rfl
  ·refine⟨⟨k+1,by omega,by rw [hzt,List.all_append,hinv];simpa using hc⟩,by dsimp only;omega,?_,rfl⟩
   simp only [Agree,go_sem,simprocAttr]
 obtain rfl:k=(c.methods).length:=by omega
 rw [List.take_length] at hinv
 have hlt2:decide (((c.methods).length:Int)<((c.methods).length:Int))=false:=decide_eq_false (by omega)
 rw [hinv,Bool.true_and] at hse
 replace fx:=And.intro hlt2 trivial
 repeat' (first|refine stp [0,1,2,3,4,5,6,7,13,22,27,55,60,70] ?_|(refine stc (r1:=by first|exact pName _ (by omega)|exact pVarsR c.fields 12 _ z6) (r2:=?_);refine rnx ?_)|refine WP.cn (fun hc=>?_) (fun hc=>?_)|fail)
 exact bool_eq (by rw [hse])
theorem pRight (l:List Cs) (hz:sumOf Cs.sz l≤1048576):DPure Tryz.prog 44 [.a (.sl (l.map Cs.at))] (.a (.v (.bool (rightB l)))):=by
 have hll:=sumOf_len Cs.sz_pos l
 have hss:sumOf Cs.stmts l≤sumOf Cs.sz l:=sumOf_le _ fun c _=>c.stmts_le
 have hse:rightB l=(l.all (fun c=>!(decide ((l.length:Int)>20)||!c.rightB))&&decide (((sumOf Cs.stmts l:Nat):Int)≤400)):=rfl
 refine DPure.go Tryz.func44 rfl Tryz.ntmps44 rfl rfl rfl (fun C hro=>?_)
 have fx:=trivial
 repeat' (first|refine stp [0,2,3,4,8,21] ?_|refine WP.cn (fun hc=>?_) (fun hc=>?_)|fail)
 refine WP.loop (α:={ k:Nat // k≤l.length∧(l.take k).all (fun c=>!(decide ((l.length:Int)>20)||!c.rightB))=true }) (fun y=>[(0,.a (.sl (l.map Cs.at))),(3,.a (.v (.int .i64 (sumOf Cs.stmts (l.take y.1):Nat)))),(4,.a (.v (.int .i64 y.1)))]) (fun _=>[]) (fun y=>l.length-y.1) ⟨0,by omega,rfl⟩ (by simp only [Agree,go_sem,simprocAttr,List.take_zero,sumOf]) rfl ?_
 rintro⟨k,hk,hinv⟩
 dsimp only
 by_cases hlt:k<l.length
 ·have hlt2:decide ((k:Int)<((l.length:Nat):Int))=true:=decide_eq_true (by omega)
  obtain⟨z,hz⟩:∃z,l[k]? = some z:=⟨_,List.getElem?_eq_getElem hlt⟩
  have hzm:z∈l:=List.mem_of_getElem? hz
  have hzt:=take_snocA hz
  have hix:∀q2,ixD (some 7) q2 (.a (.sl (l.map Cs.at))) (.a (.v (.int .i64 (k:Int))))=some (.a (.ref (Cs.at z) 0)):=fun q2=>ixD_at rfl (by rw [List.getElem?_map,hz];rfl) (by simp only [go_sem])
  have hw:k<9223372036854775807:=by omega
  have hzz:z.sz≤1048576:=by have:=sumOf_mem (f:=Cs.sz) hzm;omega
  have hT0:=sumOf_take Cs.stmts l (k+1)
  rw [hzt,sumOf_app,sumOf_one] at hT0
  have hwS:IntKind.i64.wrap (((sumOf Cs.stmts (l.take k):Nat):Int)+(z.stmts:Int))=((sumOf Cs.stmts (l.take k)+z.stmts:Nat):Int):=by rw [wrap64 (by omega) (by omega)];omega
  replace fx:=And.intro hlt2 (And.intro hix (And.intro hw (And.intro hwS trivial)))
  repeat' (first|refine stp [0,2,3,4,8,21] ?_|(refine stc (r1:=by first|exact pClass z hzz|exact pStmts z hzz) (r2:=?_);refine rnx ?_)|refine WP.cn (fun hc=>?_) (fun hc=>?_)|fail)
  ·refine bool_eq ?_
   rw [hse,show (l.all (fun c=>!(decide ((l.length:Int)>20)||!c.rightB)))=false by rw [List.all_eq_false];exact⟨z,hzm,by rw [hc];simp⟩];rfl
  ·refine⟨⟨k+1,by omega,by rw [hzt,List.all_append,hinv];simp only [List.all_cons,List.all_nil,hc,Bool.not_false,Bool.and_true]⟩,by dsimp only;omega,?_,rfl⟩
   simp only [Agree,go_sem,simprocAttr,hzt,sumOf_app,sumOf_one]
 obtain rfl:k=l.length:=by omega
 rw [List.take_length] at hinv
 have hlt2:decide ((l.length:Int)<(l.length:Int))=false:=decide_eq_false (by omega)
 repeat' (first|refine WP.seq ?_|(refine WP.reg [0,2,3,4,8,21] (by kernel_rfl) (by kernel_rfl) ?_;refine RS.run2 (by simp only [go_sem,simprocAttr,hlt2,List.take_length];first|done|rfl) ?_;simp only [RSr_mk])|(first|refine RS.finT (by simp only [go_sem,simprocAttr];first|done|rfl) ?_|refine RS.fin (by simp only [go_sem,simprocAttr];first|done|rfl) ?_;(try simp only [thenQ_n,blockQ_n]))|(refine RS.call (by simp only [go_sem,simprocAttr,hlt2,List.take_length];first|done|rfl) (by simp only [go_sem,List.all_cons,List.all_nil,Bool.and_true,hlt2,List.take_length]) (by fail) ?_;refine RS.run2 (by simp only [go_sem,simprocAttr,hlt2,List.take_length];first|done|rfl) ?_;simp only [RSr_mk])|((refine WP.cond rfl (by simp only [go_sem,simprocAttr,hlt2,List.take_length];first|done|rfl) (fun hc=>?_) (fun hc=>?_))<;>try exact Bool.noConfusion hc)|(refine WP.skip ?_;(try simp only [thenQ_n,blockQ_n]))|(refine WP.exit ?_;(try simp only [thenQ_e,blockQ_e,blockQ_o,ne_eq,Nat.reduceEqDiff,not_false_eq_true,reduceCtorEq,thenQ_n,blockQ_n]))|refine WP.block ?_|(refine WP.ret ?_;(try simp only [thenQ_r,blockQ_r]);refine ret1 rfl (by simp only [go_sem,simprocAttr,hlt2,List.take_length];first|done|rfl) (by simp only [go_sem,hlt2,List.take_length]) ?_)|(fail;simp only [List.take_succ_cons,List.take_zero,List.drop_succ_cons,List.drop_zero,List.take_nil,List.drop_nil];refine RQ.run2 (by simp only [go_sem,simprocAttr,hlt2,List.take_length];first|done|rfl) ?_;simp only [RQr_mk])|(refine RQ.nil ?_;refine RS.run2 (by simp only [go_sem,simprocAttr,hlt2,List.take_length];first|done|rfl) ?_;simp only [RSr_mk])|(refine RQ.call (by simp only [go_sem,simprocAttr,hlt2,List.take_length];first|done|rfl) (by simp only [go_sem,List.all_cons,List.all_nil,Bool.and_true,hlt2,List.take_length]) (by fail) ?_;refine RQ.run2 (by simp only [go_sem,simprocAttr,hlt2,List.take_length];first|done|rfl) ?_;simp only [RQr_mk]))
 exact bool_eq (by rw [hse,hinv];rfl)
end Go.Proofs.YtibdalkdgjghoaaGreatDoor
