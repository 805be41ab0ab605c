/- The document's statements on plain data. Conditions: at most 2^20 of anything. -/
import Derived.Test.YthkojpnjdpbcgaaGreatDoorMg27
import Derived.Test.YthkojpnjdpbcgaaGreatDoorMg28
set_option linter.unusedVariables false
set_option maxRecDepth 100000
set_option maxHeartbeats 8000000
set_option linter.unusedSimpArgs false
namespace Go.Proofs.YthkojpnjdpbcgaaGreatDoor
open Go.RowKit
theorem pSize:∀(m:Nat) (s:St),s.sz≤m→s.sz≤1048576→qab Tryz.prog 18 [.r (St.at s)] (.a (.v (.int .i64 s.cnt)))
 | 0,s,h,_=>by have:=s.sz_pos;omega
 | m+1,s,h,hz0=>by
  have IB:∀k∈s.body,qab Tryz.prog 18 [.r (St.at k)] (.a (.v (.int .i64 k.cnt))):=fun k hk=>pSize m k (by have:=St.body_lt hk;omega) (by have:=St.body_lt hk;omega)
  have IE:∀k∈s.els,qab Tryz.prog 18 [.r (St.at k)] (.a (.v (.int .i64 k.cnt))):=fun k hk=>pSize m k (by have:=St.els_lt hk;omega) (by have:=St.els_lt hk;omega)
  have hse:=s.sz_eq
  have hl1:=St.szs_len s.body
  have hl2:=St.szs_len s.els
  have hce:=s.cnt_eq
  have hcl:=(St.deep_le s.sz s (Nat.le_refl _)).2
  refine qab.go Tryz.func18 rfl Tryz.ntmps18 rfl rfl rfl (fun C hro=>?_)
  have fx:=trivial
  repeat' (first|refine stp [0,1,2,3,4,5,10,25] ?_|refine WP.cn (fun hc=>?_) (fun hc=>?_)|fail)
  refine WP.loop (α:={ k:Nat // k≤(s.body).length }) (fun y=>[(1,.a (.ptr 0 0)),(3,.a (.v (.int .i64 (1+St.cnts (s.body.take y.1):Nat)))),(4,.a (.v (.int .i64 y.1)))]) (fun _=>[.cell (St.at s)]) (fun y=>(s.body).length-y.1) ⟨0,by omega⟩ (by simp only [qai,go_sem,simprocAttr,List.take_zero,St.cnts,St.cnts_app,St.cnts_one];first|done|(refine congrArg (fun q:Int=>D.a (.v (.int .i64 q))) (by omega))) rfl ?_
  rintro⟨k,hk⟩
  dsimp only
  by_cases hlt:k<(s.body).length
  ·have hlt2:decide ((k:Int)<(((s.body).length:Nat):Int))=true:=decide_eq_true (by omega)
   obtain⟨z,hz⟩:∃z,(s.body)[k]? = some z:=⟨_,List.getElem?_eq_getElem hlt⟩
   have hzm:z∈(s.body):=lm4 hz
   have hzt:=qak hz
   have hix:∀q2,ixD (some 23) q2 (.a (.sl ((s.body).map St.at))) (.a (.v (.int .i64 (k:Int))))=some (.a (.ref (St.at z) 0)):=fun q2=>qaw rfl (by rw [List.getElem?_map,hz];rfl) (by simp only [go_sem])
   have hw:k<9223372036854775807:=by omega
   have hT:=St.cnts_take s.body (k+1)
   rw [hzt,St.cnts_app,St.cnts_one] at hT
   have hwS:IntKind.i64.wrap (((1+St.cnts (s.body.take k):Nat):Int)+(z.cnt:Int))=((1+(St.cnts (s.body.take k)+z.cnt):Nat):Int):=by rw [qia (by omega) (by omega)];omega
   replace fx:=And.intro hlt2 (And.intro hix (And.intro hw (And.intro hwS trivial)))
   repeat' (first|refine stp [0,1,2,3,4,5,10,25] ?_|(refine stc (r1:=by exact IB _ hzm) (r2:=?_);refine rnx ?_)|refine WP.cn (fun hc=>?_) (fun hc=>?_)|fail)
   refine⟨⟨k+1,by omega⟩,by dsimp only;omega,?_,rfl⟩
   simp only [qai,go_sem,simprocAttr,hzt,St.cnts,St.cnts_app,St.cnts_one]
   first|done|(refine congrArg (fun q:Int=>D.a (.v (.int .i64 q))) (by omega))
  obtain rfl:k=(s.body).length:=by omega
  have hlt2:decide (((s.body).length:Int)<((s.body).length:Int))=false:=decide_eq_false (by omega)
  repeat' (first|refine WP.seq ?_|(refine WP.reg [0,1,2,3,4,5,10,25] (by kernel_rfl) (by kernel_rfl) ?_;refine RS.run2 (by simp only [go_sem,simprocAttr,hlt2,List.take_length];first|done|rfl) ?_;simp only [qa7])|(first|refine RS.finT (by simp only [go_sem,simprocAttr];first|done|rfl) ?_|refine RS.fin (by simp only [go_sem,simprocAttr];first|done|rfl) ?_;(try simp only [qag,qam]))|(refine RS.call (by simp only [go_sem,simprocAttr,hlt2,List.take_length];first|done|rfl) (by simp only [go_sem,List.all_cons,List.all_nil,Bool.and_true,hlt2,List.take_length]) (by fail) ?_;refine RS.run2 (by simp only [go_sem,simprocAttr,hlt2,List.take_length];first|done|rfl) ?_;simp only [qa7])|((refine WP.cond rfl (by simp only [go_sem,simprocAttr,hlt2,List.take_length];first|done|rfl) (fun hc=>?_) (fun hc=>?_))<;>try exact Bool.noConfusion hc)|(refine WP.skip ?_;(try simp only [qag,qam]))|(refine WP.exit ?_;(try simp only [qgz,qfa,qe9,ne_eq,Nat.reduceEqDiff,not_false_eq_true,reduceCtorEq,qag,qam]))|refine WP.block ?_|(refine WP.ret ?_;(try simp only [qeg,qdg]);refine ret1 rfl (by simp only [go_sem,simprocAttr,hlt2,List.take_length];first|done|rfl) (by simp only [go_sem,hlt2,List.take_length]) ?_)|(fail;simp only [List.take_succ_cons,List.take_zero,List.drop_succ_cons,List.drop_zero,List.take_nil,List.drop_nil];refine RQ.run2 (by simp only [go_sem,simprocAttr,hlt2,List.take_length];first|done|rfl) ?_;simp only [qc8])|(refine RQ.nil ?_;refine RS.run2 (by simp only [go_sem,simprocAttr,hlt2,List.take_length];first|done|rfl) ?_;simp only [qa7])|(refine RQ.call (by simp only [go_sem,simprocAttr,hlt2,List.take_length];first|done|rfl) (by simp only [go_sem,List.all_cons,List.all_nil,Bool.and_true,hlt2,List.take_length]) (by fail) ?_;refine RQ.run2 (by simp only [go_sem,simprocAttr,hlt2,List.take_length];first|done|rfl) ?_;simp only [qc8]))
  refine WP.loop (α:={ k:Nat // k≤(s.els).length }) (fun y=>[(1,.a (.ptr 0 0)),(3,.a (.v (.int .i64 (1+St.cnts s.body+St.cnts (s.els.take y.1):Nat)))),(5,.a (.v (.int .i64 y.1)))]) (fun _=>[.cell (St.at s)]) (fun y=>(s.els).length-y.1) ⟨0,by omega⟩ (by simp only [qai,go_sem,simprocAttr,List.take_zero,St.cnts,St.cnts_app,St.cnts_one];first|done|(refine congrArg (fun q:Int=>D.a (.v (.int .i64 q))) (by omega))) rfl ?_
  rintro⟨k,hk⟩
  dsimp only
  by_cases hlt:k<(s.els).length
  ·have hlt2:decide ((k:Int)<(((s.els).length:Nat):Int))=true:=decide_eq_true (by omega)
   obtain⟨z,hz⟩:∃z,(s.els)[k]? = some z:=⟨_,List.getElem?_eq_getElem hlt⟩
   have hzm:z∈(s.els):=lm4 hz
   have hzt:=qak hz
   have hix:∀q2,ixD (some 23) q2 (.a (.sl ((s.els).map St.at))) (.a (.v (.int .i64 (k:Int))))=some (.a (.ref (St.at z) 0)):=fun q2=>qaw rfl (by rw [List.getElem?_map,hz];rfl) (by simp only [go_sem])
   have hw:k<9223372036854775807:=by omega
   have hT:=St.cnts_take s.els (k+1)
   rw [hzt,St.cnts_app,St.cnts_one] at hT
   have hwS:IntKind.i64.wrap (((1+St.cnts s.body+St.cnts (s.els.take k):Nat):Int)+(z.cnt:Int))=((1+St.cnts s.body+(St.cnts (s.els.take k)+z.cnt):Nat):Int):=by rw [qia (by omega) (by omega)];omega
   replace fx:=And.intro hlt2 (And.intro hix (And.intro hw (And.intro hwS trivial)))
   repeat' (first|refine stp [0,1,2,3,4,5,10,25] ?_|(refine stc (r1:=by exact IE _ hzm) (r2:=?_);refine rnx ?_)|refine WP.cn (fun hc=>?_) (fun hc=>?_)|fail)
   refine⟨⟨k+1,by omega⟩,by dsimp only;omega,?_,rfl⟩
   simp only [qai,go_sem,simprocAttr,hzt,St.cnts,St.cnts_app,St.cnts_one]
   first|done|(refine congrArg (fun q:Int=>D.a (.v (.int .i64 q))) (by omega))
  obtain rfl:k=(s.els).length:=by omega
  have hlt2:decide (((s.els).length:Int)<((s.els).length:Int))=false:=decide_eq_false (by omega)
  repeat' (first|refine WP.seq ?_|(refine WP.reg [0,1,2,3,4,5,10,25] (by kernel_rfl) (by kernel_rfl) ?_;refine RS.run2 (by simp only [go_sem,simprocAttr,hlt2,List.take_length];first|done|rfl) ?_;simp only [qa7])|(first|refine RS.finT (by simp only [go_sem,simprocAttr];first|done|rfl) ?_|refine RS.fin (by simp only [go_sem,simprocAttr];first|done|rfl) ?_;(try simp only [qag,qam]))|(refine RS.call (by simp only [go_sem,simprocAttr,hlt2,List.take_length];first|done|rfl) (by simp only [go_sem,List.all_cons,List.all_nil,Bool.and_true,hlt2,List.take_length]) (by fail) ?_;refine RS.run2 (by simp only [go_sem,simprocAttr,hlt2,List.take_length];first|done|rfl) ?_;simp only [qa7])|((refine WP.cond rfl (by simp only [go_sem,simprocAttr,hlt2,List.take_length];first|done|rfl) (fun hc=>?_) (fun hc=>?_))<;>try exact Bool.noConfusion hc)|(refine WP.skip ?_;(try simp only [qag,qam]))|(refine WP.exit ?_;(try simp only [qgz,qfa,qe9,ne_eq,Nat.reduceEqDiff,not_false_eq_true,reduceCtorEq,qag,qam]))|refine WP.block ?_|(refine WP.ret ?_;(try simp only [qeg,qdg]);refine ret1 rfl (by simp only [go_sem,simprocAttr,hlt2,List.take_length];first|done|rfl) (by simp only [go_sem,hlt2,List.take_length]) ?_)|(fail;simp only [List.take_succ_cons,List.take_zero,List.drop_succ_cons,List.drop_zero,List.take_nil,List.drop_nil];refine RQ.run2 (by simp only [go_sem,simprocAttr,hlt2,List.take_length];first|done|rfl) ?_;simp only [qc8])|(refine RQ.nil ?_;refine RS.run2 (by simp only [go_sem,simprocAttr,hlt2,List.take_length];first|done|rfl) ?_;simp only [qa7])|(refine RQ.call (by simp only [go_sem,simprocAttr,hlt2,List.take_length];first|done|rfl) (by simp only [go_sem,List.all_cons,List.all_nil,Bool.and_true,hlt2,List.take_length]) (by fail) ?_;refine RQ.run2 (by simp only [go_sem,simprocAttr,hlt2,List.take_length];first|done|rfl) ?_;simp only [qc8]))
  exact qla (by omega)
end Go.Proofs.YthkojpnjdpbcgaaGreatDoor
