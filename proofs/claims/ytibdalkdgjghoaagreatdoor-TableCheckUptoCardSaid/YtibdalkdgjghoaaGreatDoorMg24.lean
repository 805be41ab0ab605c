/- The document's statements on plain data. Conditions: at most 2^20 of anything. -/
import Derived.Test.YtibdalkdgjghoaaGreatDoorMg22
import Derived.Test.YtibdalkdgjghoaaGreatDoorMg23
set_option linter.unusedVariables false
set_option maxRecDepth 100000
set_option maxHeartbeats 8000000
set_option linter.unusedSimpArgs false
namespace Go.Proofs.YtibdalkdgjghoaaGreatDoor
open Go.RowKit
theorem pSize:∀(m:Nat) (s:St),s.sz≤m→s.sz≤1048576→DPure Tryz.prog 36 [.r (St.at s)] (.a (.v (.int .i64 s.cnt)))
 | 0,s,h,_=>by have:=s.sz_pos;omega
 | m+1,s,h,hz0=>by
  have IB:∀k∈s.body,DPure Tryz.prog 36 [.r (St.at k)] (.a (.v (.int .i64 k.cnt))):=fun k hk=>pSize m k (by have:=St.body_lt hk;omega) (by have:=St.body_lt hk;omega)
  have IE:∀k∈s.els,DPure Tryz.prog 36 [.r (St.at k)] (.a (.v (.int .i64 k.cnt))):=fun k hk=>pSize m k (by have:=St.els_lt hk;omega) (by have:=St.els_lt hk;omega)
  have hse:=s.sz_eq
  have hl1:=St.szs_len s.body
  have hl2:=St.szs_len s.els
  have hce:=s.cnt_eq
  have hcl:=(St.deep_le s.sz s (Nat.le_refl _)).2
  refine DPure.go Tryz.func36 rfl Tryz.ntmps36 rfl rfl rfl (fun C hro=>?_)
  have fx:=trivial
  repeat' (first|refine stp [0,1,2,3,4,5,10,25] ?_|refine WP.cn (fun hc=>?_) (fun hc=>?_)|fail)
  refine WP.loop (α:={ k:Nat // k≤(s.body).length }) (fun y=>[(1,.a (.ptr 0 0)),(3,.a (.v (.int .i64 (1+St.cnts (s.body.take y.1):Nat)))),(4,.a (.v (.int .i64 y.1)))]) (fun _=>[.cell (St.at s)]) (fun y=>(s.body).length-y.1) ⟨0,by omega⟩ (by simp only [Agree,go_sem,simprocAttr,List.take_zero,St.cnts,St.cnts_app,St.cnts_one];first|done|(refine congrArg (fun q:Int=>D.a (.v (.int .i64 q))) (by omega))) rfl ?_
  rintro⟨k,hk⟩
  dsimp only
  by_cases hlt:k<(s.body).length
  ·have hlt2:decide ((k:Int)<(((s.body).length:Nat):Int))=true:=decide_eq_true (by omega)
   obtain⟨z,hz⟩:∃z,(s.body)[k]? = some z:=⟨_,List.getElem?_eq_getElem hlt⟩
   have hzm:z∈(s.body):=List.mem_of_getElem? hz
   have hzt:=take_snocA hz
   have hix:∀q2,ixD (some 23) q2 (.a (.sl ((s.body).map St.at))) (.a (.v (.int .i64 (k:Int))))=some (.a (.ref (St.at z) 0)):=fun q2=>ixD_at rfl (by rw [List.getElem?_map,hz];rfl) (by simp only [go_sem])
   have hw:k<9223372036854775807:=by omega
   have hT:=St.cnts_take s.body (k+1)
   rw [hzt,St.cnts_app,St.cnts_one] at hT
   have hwS:IntKind.i64.wrap (((1+St.cnts (s.body.take k):Nat):Int)+(z.cnt:Int))=((1+(St.cnts (s.body.take k)+z.cnt):Nat):Int):=by rw [wrap64 (by omega) (by omega)];omega
   replace fx:=And.intro hlt2 (And.intro hix (And.intro hw (And.intro hwS trivial)))
   repeat' (first|refine stp [0,1,2,3,4,5,10,25] ?_|(refine stc (r1:=by exact IB _ hzm) (r2:=?_);refine rnx ?_)|refine WP.cn (fun hc=>?_) (fun hc=>?_)|fail)
   refine⟨⟨k+1,by omega⟩,by dsimp only;omega,?_,rfl⟩
   simp only [Agree,go_sem,simprocAttr,hzt,St.cnts,St.cnts_app,St.cnts_one]
   first|done|(refine congrArg (fun q:Int=>D.a (.v (.int .i64 q))) (by omega))
  obtain rfl:k=(s.body).length:=by omega
  have hlt2:decide (((s.body).length:Int)<((s.body).length:Int))=false:=decide_eq_false (by omega)
  repeat' (first|refine WP.seq ?_|(refine WP.reg [0,1,2,3,4,5,10,25] (by kernel_rfl) (by kernel_rfl) ?_;refine RS.run2 (by simp only [go_sem,simprocAttr,hlt2,List.take_length];first|done|rfl) ?_;simp only [RSr_mk])|(first|refine RS.finT (by simp only [go_sem,simprocAttr];first|done|rfl) ?_|refine RS.fin (by simp only [go_sem,simprocAttr];first|done|rfl) ?_;(try simp only [thenQ_n,blockQ_n]))|(refine RS.call (by simp only [go_sem,simprocAttr,hlt2,List.take_length];first|done|rfl) (by simp only [go_sem,List.all_cons,List.all_nil,Bool.and_true,hlt2,List.take_length]) (by fail) ?_;refine RS.run2 (by simp only [go_sem,simprocAttr,hlt2,List.take_length];first|done|rfl) ?_;simp only [RSr_mk])|((refine WP.cond rfl (by simp only [go_sem,simprocAttr,hlt2,List.take_length];first|done|rfl) (fun hc=>?_) (fun hc=>?_))<;>try exact Bool.noConfusion hc)|(refine WP.skip ?_;(try simp only [thenQ_n,blockQ_n]))|(refine WP.exit ?_;(try simp only [thenQ_e,blockQ_e,blockQ_o,ne_eq,Nat.reduceEqDiff,not_false_eq_true,reduceCtorEq,thenQ_n,blockQ_n]))|refine WP.block ?_|(refine WP.ret ?_;(try simp only [thenQ_r,blockQ_r]);refine ret1 rfl (by simp only [go_sem,simprocAttr,hlt2,List.take_length];first|done|rfl) (by simp only [go_sem,hlt2,List.take_length]) ?_)|(fail;simp only [List.take_succ_cons,List.take_zero,List.drop_succ_cons,List.drop_zero,List.take_nil,List.drop_nil];refine RQ.run2 (by simp only [go_sem,simprocAttr,hlt2,List.take_length];first|done|rfl) ?_;simp only [RQr_mk])|(refine RQ.nil ?_;refine RS.run2 (by simp only [go_sem,simprocAttr,hlt2,List.take_length];first|done|rfl) ?_;simp only [RSr_mk])|(refine RQ.call (by simp only [go_sem,simprocAttr,hlt2,List.take_length];first|done|rfl) (by simp only [go_sem,List.all_cons,List.all_nil,Bool.and_true,hlt2,List.take_length]) (by fail) ?_;refine RQ.run2 (by simp only [go_sem,simprocAttr,hlt2,List.take_length];first|done|rfl) ?_;simp only [RQr_mk]))
  refine WP.loop (α:={ k:Nat // k≤(s.els).length }) (fun y=>[(1,.a (.ptr 0 0)),(3,.a (.v (.int .i64 (1+St.cnts s.body+St.cnts (s.els.take y.1):Nat)))),(5,.a (.v (.int .i64 y.1)))]) (fun _=>[.cell (St.at s)]) (fun y=>(s.els).length-y.1) ⟨0,by omega⟩ (by simp only [Agree,go_sem,simprocAttr,List.take_zero,St.cnts,St.cnts_app,St.cnts_one];first|done|(refine congrArg (fun q:Int=>D.a (.v (.int .i64 q))) (by omega))) rfl ?_
  rintro⟨k,hk⟩
  dsimp only
  by_cases hlt:k<(s.els).length
  ·have hlt2:decide ((k:Int)<(((s.els).length:Nat):Int))=true:=decide_eq_true (by omega)
   obtain⟨z,hz⟩:∃z,(s.els)[k]? = some z:=⟨_,List.getElem?_eq_getElem hlt⟩
   have hzm:z∈(s.els):=List.mem_of_getElem? hz
   have hzt:=take_snocA hz
   have hix:∀q2,ixD (some 23) q2 (.a (.sl ((s.els).map St.at))) (.a (.v (.int .i64 (k:Int))))=some (.a (.ref (St.at z) 0)):=fun q2=>ixD_at rfl (by rw [List.getElem?_map,hz];rfl) (by simp only [go_sem])
   have hw:k<9223372036854775807:=by omega
   have hT:=St.cnts_take s.els (k+1)
   rw [hzt,St.cnts_app,St.cnts_one] at hT
   have hwS:IntKind.i64.wrap (((1+St.cnts s.body+St.cnts (s.els.take k):Nat):Int)+(z.cnt:Int))=((1+St.cnts s.body+(St.cnts (s.els.take k)+z.cnt):Nat):Int):=by rw [wrap64 (by omega) (by omega)];omega
   replace fx:=And.intro hlt2 (And.intro hix (And.intro hw (And.intro hwS trivial)))
   repeat' (first|refine stp [0,1,2,3,4,5,10,25] ?_|(refine stc (r1:=by exact IE _ hzm) (r2:=?_);refine rnx ?_)|refine WP.cn (fun hc=>?_) (fun hc=>?_)|fail)
   refine⟨⟨k+1,by omega⟩,by dsimp only;omega,?_,rfl⟩
   simp only [Agree,go_sem,simprocAttr,hzt,St.cnts,St.cnts_app,St.cnts_one]
   first|done|(refine congrArg (fun q:Int=>D.a (.v (.int .i64 q))) (by omega))
  obtain rfl:k=(s.els).length:=by omega
  have hlt2:decide (((s.els).length:Int)<((s.els).length:Int))=false:=decide_eq_false (by omega)
  repeat' (first|refine WP.seq ?_|(refine WP.reg [0,1,2,3,4,5,10,25] (by kernel_rfl) (by kernel_rfl) ?_;refine RS.run2 (by simp only [go_sem,simprocAttr,hlt2,List.take_length];first|done|rfl) ?_;simp only [RSr_mk])|(first|refine RS.finT (by simp only [go_sem,simprocAttr];first|done|rfl) ?_|refine RS.fin (by simp only [go_sem,simprocAttr];first|done|rfl) ?_;(try simp only [thenQ_n,blockQ_n]))|(refine RS.call (by simp only [go_sem,simprocAttr,hlt2,List.take_length];first|done|rfl) (by simp only [go_sem,List.all_cons,List.all_nil,Bool.and_true,hlt2,List.take_length]) (by fail) ?_;refine RS.run2 (by simp only [go_sem,simprocAttr,hlt2,List.take_length];first|done|rfl) ?_;simp only [RSr_mk])|((refine WP.cond rfl (by simp only [go_sem,simprocAttr,hlt2,List.take_length];first|done|rfl) (fun hc=>?_) (fun hc=>?_))<;>try exact Bool.noConfusion hc)|(refine WP.skip ?_;(try simp only [thenQ_n,blockQ_n]))|(refine WP.exit ?_;(try simp only [thenQ_e,blockQ_e,blockQ_o,ne_eq,Nat.reduceEqDiff,not_false_eq_true,reduceCtorEq,thenQ_n,blockQ_n]))|refine WP.block ?_|(refine WP.ret ?_;(try simp only [thenQ_r,blockQ_r]);refine ret1 rfl (by simp only [go_sem,simprocAttr,hlt2,List.take_length];first|done|rfl) (by simp only [go_sem,hlt2,List.take_length]) ?_)|(fail;simp only [List.take_succ_cons,List.take_zero,List.drop_succ_cons,List.drop_zero,List.take_nil,List.drop_nil];refine RQ.run2 (by simp only [go_sem,simprocAttr,hlt2,List.take_length];first|done|rfl) ?_;simp only [RQr_mk])|(refine RQ.nil ?_;refine RS.run2 (by simp only [go_sem,simprocAttr,hlt2,List.take_length];first|done|rfl) ?_;simp only [RSr_mk])|(refine RQ.call (by simp only [go_sem,simprocAttr,hlt2,List.take_length];first|done|rfl) (by simp only [go_sem,List.all_cons,List.all_nil,Bool.and_true,hlt2,List.take_length]) (by fail) ?_;refine RQ.run2 (by simp only [go_sem,simprocAttr,hlt2,List.take_length];first|done|rfl) ?_;simp only [RQr_mk]))
  exact int_eq (by omega)
theorem pStDeep:∀(m:Nat) (s:St),s.sz≤m→s.sz≤1048576→DPure Tryz.prog 132 [.r (St.at s)] (.a (.v (.int .i64 s.deep)))
 | 0,s,h,_=>by have:=s.sz_pos;omega
 | m+1,s,h,hz0=>by
  have IB:∀k∈s.body,DPure Tryz.prog 132 [.r (St.at k)] (.a (.v (.int .i64 k.deep))):=fun k hk=>pStDeep m k (by have:=St.body_lt hk;omega) (by have:=St.body_lt hk;omega)
  have IE:∀k∈s.els,DPure Tryz.prog 132 [.r (St.at k)] (.a (.v (.int .i64 k.deep))):=fun k hk=>pStDeep m k (by have:=St.els_lt hk;omega) (by have:=St.els_lt hk;omega)
  have hse:=s.sz_eq
  have hl1:=St.szs_len s.body
  have hl2:=St.szs_len s.els
  have hce:=s.deep_eq
  have hcl:=(St.deep_le s.sz s (Nat.le_refl _)).1
  refine DPure.go Tryz.func132 rfl Tryz.ntmps132 rfl rfl rfl (fun C hro=>?_)
  have fx:=trivial
  repeat' (first|refine stp [0,1,2,3,4,5,10,25] ?_|refine WP.cn (fun hc=>?_) (fun hc=>?_)|fail)
  refine WP.loop (α:={ k:Nat // k≤(s.body).length }) (fun y=>[(1,.a (.ptr 0 0)),(3,.a (.v (.int .i64 (St.deeps (s.body.take y.1):Nat)))),(4,.a (.v (.int .i64 y.1)))]) (fun _=>[.cell (St.at s)]) (fun y=>(s.body).length-y.1) ⟨0,by omega⟩ (by simp only [Agree,go_sem,simprocAttr,List.take_zero,St.deeps,St.deeps_app,St.deeps_one];first|done|(refine congrArg (fun q:Int=>D.a (.v (.int .i64 q))) (by omega))) rfl ?_
  rintro⟨k,hk⟩
  dsimp only
  by_cases hlt:k<(s.body).length
  ·have hlt2:decide ((k:Int)<(((s.body).length:Nat):Int))=true:=decide_eq_true (by omega)
   obtain⟨z,hz⟩:∃z,(s.body)[k]? = some z:=⟨_,List.getElem?_eq_getElem hlt⟩
   have hzm:z∈(s.body):=List.mem_of_getElem? hz
   have hzt:=take_snocA hz
   have hix:∀q2,ixD (some 23) q2 (.a (.sl ((s.body).map St.at))) (.a (.v (.int .i64 (k:Int))))=some (.a (.ref (St.at z) 0)):=fun q2=>ixD_at rfl (by rw [List.getElem?_map,hz];rfl) (by simp only [go_sem])
   have hw:k<9223372036854775807:=by omega
   skip
   replace fx:=And.intro hlt2 (And.intro hix (And.intro hw trivial))
   repeat' (first|refine stp [0,1,2,3,4,5,10,25] ?_|(refine stc (r1:=by exact IB _ hzm) (r2:=?_);refine rnx ?_)|refine WP.cn (fun hc=>?_) (fun hc=>?_)|fail)
   refine⟨⟨k+1,by omega⟩,by dsimp only;omega,?_,rfl⟩
   simp only [Agree,go_sem,simprocAttr,hzt,St.deeps,St.deeps_app,St.deeps_one]
   first|done|(refine congrArg (fun q:Int=>D.a (.v (.int .i64 q))) (by omega))
  obtain rfl:k=(s.body).length:=by omega
  have hlt2:decide (((s.body).length:Int)<((s.body).length:Int))=false:=decide_eq_false (by omega)
  repeat' (first|refine WP.seq ?_|(refine WP.reg [0,1,2,3,4,5,10,25] (by kernel_rfl) (by kernel_rfl) ?_;refine RS.run2 (by simp only [go_sem,simprocAttr,hlt2,List.take_length];first|done|rfl) ?_;simp only [RSr_mk])|(first|refine RS.finT (by simp only [go_sem,simprocAttr];first|done|rfl) ?_|refine RS.fin (by simp only [go_sem,simprocAttr];first|done|rfl) ?_;(try simp only [thenQ_n,blockQ_n]))|(refine RS.call (by simp only [go_sem,simprocAttr,hlt2,List.take_length];first|done|rfl) (by simp only [go_sem,List.all_cons,List.all_nil,Bool.and_true,hlt2,List.take_length]) (by fail) ?_;refine RS.run2 (by simp only [go_sem,simprocAttr,hlt2,List.take_length];first|done|rfl) ?_;simp only [RSr_mk])|((refine WP.cond rfl (by simp only [go_sem,simprocAttr,hlt2,List.take_length];first|done|rfl) (fun hc=>?_) (fun hc=>?_))<;>try exact Bool.noConfusion hc)|(refine WP.skip ?_;(try simp only [thenQ_n,blockQ_n]))|(refine WP.exit ?_;(try simp only [thenQ_e,blockQ_e,blockQ_o,ne_eq,Nat.reduceEqDiff,not_false_eq_true,reduceCtorEq,thenQ_n,blockQ_n]))|refine WP.block ?_|(refine WP.ret ?_;(try simp only [thenQ_r,blockQ_r]);refine ret1 rfl (by simp only [go_sem,simprocAttr,hlt2,List.take_length];first|done|rfl) (by simp only [go_sem,hlt2,List.take_length]) ?_)|(fail;simp only [List.take_succ_cons,List.take_zero,List.drop_succ_cons,List.drop_zero,List.take_nil,List.drop_nil];refine RQ.run2 (by simp only [go_sem,simprocAttr,hlt2,List.take_length];first|done|rfl) ?_;simp only [RQr_mk])|(refine RQ.nil ?_;refine RS.run2 (by simp only [go_sem,simprocAttr,hlt2,List.take_length];first|done|rfl) ?_;simp only [RSr_mk])|(refine RQ.call (by simp only [go_sem,simprocAttr,hlt2,List.take_length];first|done|rfl) (by simp only [go_sem,List.all_cons,List.all_nil,Bool.and_true,hlt2,List.take_length]) (by fail) ?_;refine RQ.run2 (by simp only [go_sem,simprocAttr,hlt2,List.take_length];first|done|rfl) ?_;simp only [RQr_mk]))
  refine WP.loop (α:={ k:Nat // k≤(s.els).length }) (fun y=>[(1,.a (.ptr 0 0)),(3,.a (.v (.int .i64 (max (St.deeps s.body) (St.deeps (s.els.take y.1)):Nat)))),(5,.a (.v (.int .i64 y.1)))]) (fun _=>[.cell (St.at s)]) (fun y=>(s.els).length-y.1) ⟨0,by omega⟩ (by simp only [Agree,go_sem,simprocAttr,List.take_zero,St.deeps,St.deeps_app,St.deeps_one];first|done|(refine congrArg (fun q:Int=>D.a (.v (.int .i64 q))) (by omega))) rfl ?_
  rintro⟨k,hk⟩
  dsimp only
  by_cases hlt:k<(s.els).length
  ·have hlt2:decide ((k:Int)<(((s.els).length:Nat):Int))=true:=decide_eq_true (by omega)
   obtain⟨z,hz⟩:∃z,(s.els)[k]? = some z:=⟨_,List.getElem?_eq_getElem hlt⟩
   have hzm:z∈(s.els):=List.mem_of_getElem? hz
   have hzt:=take_snocA hz
   have hix:∀q2,ixD (some 23) q2 (.a (.sl ((s.els).map St.at))) (.a (.v (.int .i64 (k:Int))))=some (.a (.ref (St.at z) 0)):=fun q2=>ixD_at rfl (by rw [List.getElem?_map,hz];rfl) (by simp only [go_sem])
   have hw:k<9223372036854775807:=by omega
   skip
   replace fx:=And.intro hlt2 (And.intro hix (And.intro hw trivial))
   repeat' (first|refine stp [0,1,2,3,4,5,10,25] ?_|(refine stc (r1:=by exact IE _ hzm) (r2:=?_);refine rnx ?_)|refine WP.cn (fun hc=>?_) (fun hc=>?_)|fail)
   refine⟨⟨k+1,by omega⟩,by dsimp only;omega,?_,rfl⟩
   simp only [Agree,go_sem,simprocAttr,hzt,St.deeps,St.deeps_app,St.deeps_one]
   first|done|(refine congrArg (fun q:Int=>D.a (.v (.int .i64 q))) (by omega))
  obtain rfl:k=(s.els).length:=by omega
  have hlt2:decide (((s.els).length:Int)<((s.els).length:Int))=false:=decide_eq_false (by omega)
  repeat' (first|refine WP.seq ?_|(refine WP.reg [0,1,2,3,4,5,10,25] (by kernel_rfl) (by kernel_rfl) ?_;refine RS.run2 (by simp only [go_sem,simprocAttr,hlt2,List.take_length];first|done|rfl) ?_;simp only [RSr_mk])|(first|refine RS.finT (by simp only [go_sem,simprocAttr];first|done|rfl) ?_|refine RS.fin (by simp only [go_sem,simprocAttr];first|done|rfl) ?_;(try simp only [thenQ_n,blockQ_n]))|(refine RS.call (by simp only [go_sem,simprocAttr,hlt2,List.take_length];first|done|rfl) (by simp only [go_sem,List.all_cons,List.all_nil,Bool.and_true,hlt2,List.take_length]) (by fail) ?_;refine RS.run2 (by simp only [go_sem,simprocAttr,hlt2,List.take_length];first|done|rfl) ?_;simp only [RSr_mk])|((refine WP.cond rfl (by simp only [go_sem,simprocAttr,hlt2,List.take_length];first|done|rfl) (fun hc=>?_) (fun hc=>?_))<;>try exact Bool.noConfusion hc)|(refine WP.skip ?_;(try simp only [thenQ_n,blockQ_n]))|(refine WP.exit ?_;(try simp only [thenQ_e,blockQ_e,blockQ_o,ne_eq,Nat.reduceEqDiff,not_false_eq_true,reduceCtorEq,thenQ_n,blockQ_n]))|refine WP.block ?_|(refine WP.ret ?_;(try simp only [thenQ_r,blockQ_r]);refine ret1 rfl (by simp only [go_sem,simprocAttr,hlt2,List.take_length];first|done|rfl) (by simp only [go_sem,hlt2,List.take_length]) ?_)|(fail;simp only [List.take_succ_cons,List.take_zero,List.drop_succ_cons,List.drop_zero,List.take_nil,List.drop_nil];refine RQ.run2 (by simp only [go_sem,simprocAttr,hlt2,List.take_length];first|done|rfl) ?_;simp only [RQr_mk])|(refine RQ.nil ?_;refine RS.run2 (by simp only [go_sem,simprocAttr,hlt2,List.take_length];first|done|rfl) ?_;simp only [RSr_mk])|(refine RQ.call (by simp only [go_sem,simprocAttr,hlt2,List.take_length];first|done|rfl) (by simp only [go_sem,List.all_cons,List.all_nil,Bool.and_true,hlt2,List.take_length]) (by fail) ?_;refine RQ.run2 (by simp only [go_sem,simprocAttr,hlt2,List.take_length];first|done|rfl) ?_;simp only [RQr_mk]))
  rw [wrap64n (by omega)]
  exact int_eq (by omega)
theorem beqF {k c:Int} (h:k≠c):(k==c)=false:=by simpa using h
theorem pBlank (s:St):DPure Tryz.prog 232 [.r (St.at s)] (.r (St.at s.blank)):=by
 by_cases hin:1≤s.kind∧s.kind≤11
 ·have:s.kind=1∨s.kind=2∨s.kind=3∨s.kind=4∨s.kind=5∨s.kind=6∨s.kind=7∨s.kind=8∨s.kind=9∨s.kind=10∨s.kind=11:=by omega
  rcases this with hk|hk|hk|hk|hk|hk|hk|hk|hk|hk|hk
  all_goals
   refine DPure.go Tryz.func232 rfl Tryz.ntmps232 rfl rfl rfl (fun C hro=>?_)
   have fx:=trivial
   repeat' (first|refine WP.seq ?_|(refine WP.reg [0,1,2,3,27,46,57,64,88,92,99,102] (by kernel_rfl) (by kernel_rfl) ?_;refine RS.run2 (by simp only [go_sem,simprocAttr,hk,Int.reduceBEq,Int.reduceBNe,beq_self_eq_true,bne_self_eq_false];first|done|rfl) ?_;simp only [RSr_mk])|(first|refine RS.finT (by simp only [go_sem,simprocAttr];first|done|rfl) ?_|refine RS.fin (by simp only [go_sem,simprocAttr];first|done|rfl) ?_;(try simp only [thenQ_n,blockQ_n]))|(refine RS.call (by simp only [go_sem,simprocAttr,hk,Int.reduceBEq,Int.reduceBNe,beq_self_eq_true,bne_self_eq_false];first|done|rfl) (by simp only [go_sem,List.all_cons,List.all_nil,Bool.and_true,hk,Int.reduceBEq,Int.reduceBNe,beq_self_eq_true,bne_self_eq_false]) (by fail) ?_;refine RS.run2 (by simp only [go_sem,simprocAttr,hk,Int.reduceBEq,Int.reduceBNe,beq_self_eq_true,bne_self_eq_false];first|done|rfl) ?_;simp only [RSr_mk])|((refine WP.cond rfl (by simp only [go_sem,simprocAttr,hk,Int.reduceBEq,Int.reduceBNe,beq_self_eq_true,bne_self_eq_false];first|done|rfl) (fun hc=>?_) (fun hc=>?_))<;>try exact Bool.noConfusion hc)|(refine WP.skip ?_;(try simp only [thenQ_n,blockQ_n]))|(refine WP.exit ?_;(try simp only [thenQ_e,blockQ_e,blockQ_o,ne_eq,Nat.reduceEqDiff,not_false_eq_true,reduceCtorEq,thenQ_n,blockQ_n]))|refine WP.block ?_|(refine WP.ret ?_;(try simp only [thenQ_r,blockQ_r]);refine retC rfl (by simp only [go_sem,simprocAttr,hk,Int.reduceBEq,Int.reduceBNe,beq_self_eq_true,bne_self_eq_false];first|done|rfl) (by simp only [go_sem,simprocAttr,hk,Int.reduceBEq,Int.reduceBNe,beq_self_eq_true,bne_self_eq_false];first|done|rfl) (by simp only [go_sem];first|done|rfl) (by simp only [go_sem,simprocAttr,hk,Int.reduceBEq,Int.reduceBNe,beq_self_eq_true,bne_self_eq_false];first|done|rfl) (by simp only [go_sem,simprocAttr,hk,Int.reduceBEq,Int.reduceBNe,beq_self_eq_true,bne_self_eq_false];first|done|rfl) (by simp only [go_sem,hk,Int.reduceBEq,Int.reduceBNe,beq_self_eq_true,bne_self_eq_false]) ?_)|(fail;simp only [List.take_succ_cons,List.take_zero,List.drop_succ_cons,List.drop_zero,List.take_nil,List.drop_nil];refine RQ.run2 (by simp only [go_sem,simprocAttr,hk,Int.reduceBEq,Int.reduceBNe,beq_self_eq_true,bne_self_eq_false];first|done|rfl) ?_;simp only [RQr_mk])|(refine RQ.nil ?_;refine RS.run2 (by simp only [go_sem,simprocAttr,hk,Int.reduceBEq,Int.reduceBNe,beq_self_eq_true,bne_self_eq_false];first|done|rfl) ?_;simp only [RSr_mk])|(refine RQ.call (by simp only [go_sem,simprocAttr,hk,Int.reduceBEq,Int.reduceBNe,beq_self_eq_true,bne_self_eq_false];first|done|rfl) (by simp only [go_sem,List.all_cons,List.all_nil,Bool.and_true,hk,Int.reduceBEq,Int.reduceBNe,beq_self_eq_true,bne_self_eq_false]) (by fail) ?_;refine RQ.run2 (by simp only [go_sem,simprocAttr,hk,Int.reduceBEq,Int.reduceBNe,beq_self_eq_true,bne_self_eq_false];first|done|rfl) ?_;simp only [RQr_mk]))
   refine congrArg (fun z=>D.r (St.at z)) ?_
   simp [St.blank,hk]
 ·have h1:=beqF (show s.kind≠1 by omega)
  have h2:=beqF (show s.kind≠2 by omega)
  have h3:=beqF (show s.kind≠3 by omega)
  have h4:=beqF (show s.kind≠4 by omega)
  have h5:=beqF (show s.kind≠5 by omega)
  have h6:=beqF (show s.kind≠6 by omega)
  have h7:=beqF (show s.kind≠7 by omega)
  have h8:=beqF (show s.kind≠8 by omega)
  have h9:=beqF (show s.kind≠9 by omega)
  have h10:=beqF (show s.kind≠10 by omega)
  have h11:=beqF (show s.kind≠11 by omega)
  refine DPure.go Tryz.func232 rfl Tryz.ntmps232 rfl rfl rfl (fun C hro=>?_)
  have fx:=trivial
  replace fx:=And.intro h1 (And.intro h2 (And.intro h3 (And.intro h4 (And.intro h5 (And.intro h6 (And.intro h7 (And.intro h8 (And.intro h9 (And.intro h10 (And.intro h11 trivial))))))))))
  repeat' (first|refine stp [0,1,2,3,27,46,57,64,88,92,99,102] ?_|refine WP.cn (fun hc=>?_) (fun hc=>?_)|fail)
  refine congrArg (fun z=>D.r (St.at z)) ?_
  simp only [beq_eq_false_iff_ne] at *
  simp [St.blank, *]
  cases s;rfl
theorem blank_sz (s:St):s.blank.e.sz≤s.sz∧s.blank.args.length≤s.args.length∧s.blank.body.length≤s.body.length∧s.blank.els.length≤s.els.length:=by
 have:=s.sz_eq
 have h0:Ex.zero.sz=1:=rfl
 unfold St.blank
 refine⟨?_,?_,?_,?_⟩<;>(dsimp only;split<;>(try simp only [List.length_nil,h0])<;>omega)
theorem pOnly (s:St) (hz:s.sz≤1048576):DPure Tryz.prog 186 [.r (St.at s)] (.a (.v (.bool s.onlyB))):=by
 have hb:=blank_sz s
 have hse:=s.sz_eq
 have hl1:=St.szs_len s.body
 have hl2:=St.szs_len s.els
 have hl3:=Ex.szs_len s.args
 have w1:IntKind.i64.wrap ((s.blank.args.length:Int)+(s.blank.body.length:Int))=((s.blank.args.length+s.blank.body.length:Nat):Int):=by rw [wrap64 (by omega) (by omega)];omega
 have w2:IntKind.i64.wrap (((s.blank.args.length+s.blank.body.length:Nat):Int)+(s.blank.els.length:Int))=((s.blank.args.length+s.blank.body.length+s.blank.els.length:Nat):Int):=by rw [wrap64 (by omega) (by omega)];omega
 refine DPure.go Tryz.func186 rfl Tryz.ntmps186 rfl rfl rfl (fun C hro=>?_)
 have fx:=trivial
 replace fx:=And.intro w1 (And.intro w2 trivial)
 repeat' (first|refine stp [0,1,2,3] ?_|(refine stc (r1:=by first|exact pBlank s|exact pESame _ s.blank.e Ex.zero (Nat.le_refl _) (by omega)) (r2:=?_);refine rnx ?_)|fail)
 refine bool_eq ?_
 unfold St.onlyB
 rfl
theorem pNames (s:St) (p:Int) (hz:s.sz≤1048576):DPure Tryz.prog 187 [.r (St.at s),.a (.v (.int .i64 p))] (.a (.v (.bool (s.namesB p)))):=by
 have hse:=s.sz_eq
 refine DPure.go Tryz.func187 rfl Tryz.ntmps187 rfl rfl rfl (fun C hro=>?_)
 have fx:=trivial
 repeat' (first|refine stp [0,1,2,4,5,6,7,8,9] ?_|(refine stc (r1:=by first|exact pName s.x (by omega)|exact pName s.y (by omega)|exact pName s.name (by omega)|exact pTyRight s.ty p (by omega)) (r2:=?_);refine rnx ?_)|fail)
 refine bool_eq ?_
 unfold St.namesB
 rfl
theorem pTells (s:St) (hz:s.sz≤1048576):DPure Tryz.prog 188 [.r (St.at s)] (.a (.v (.bool s.tellsB))):=by
 have hse:=s.sz_eq
 have hl3:=Ex.szs_len s.args
 have hte:s.tellsB=(!(!St.noneB s&&!s.e.rightB||s.kind==6&&s.e.kind != 2&&s.e.kind != 3&&s.e.kind != 4||decide ((s.args.length:Int)>5))&&s.args.all Ex.rightB):=rfl
 refine DPure.go Tryz.func188 rfl Tryz.ntmps188 rfl rfl rfl (fun C hro=>?_)
 have fx:=trivial
 repeat' (first|refine stp [0,1,2,3,4,5,71,76,85] ?_|(refine stc (r1:=by first|exact pESame _ s.e Ex.zero (Nat.le_refl _) (by omega)|exact pERight s.e (by omega)) (r2:=?_);refine rnx ?_)|refine WP.cn (fun hc=>?_) (fun hc=>?_)|fail)
 ·refine bool_eq ?_
  rw [hte]
  unfold St.noneB
  rw [hc];rfl
 have hte:s.tellsB=s.args.all Ex.rightB:=by
  rw [hte]
  unfold St.noneB
  rw [hc];rfl
 refine WP.loop (α:={ k:Nat // k≤(s.args).length∧((s.args).take k).all (Ex.rightB)=true }) (fun y=>[(1,.a (.ptr 0 0)),(5,.a (.v (.int .i64 y.1)))]) (fun _=>[.cell (St.at s)]) (fun y=>(s.args).length-y.1) ⟨0,by omega,rfl⟩ (by simp only [Agree,go_sem,simprocAttr]) rfl ?_
 rintro⟨k,hk,hinv⟩
 dsimp only
 by_cases hlt:k<(s.args).length
 ·have hlt2:decide ((k:Int)<(((s.args).length:Nat):Int))=true:=decide_eq_true (by omega)
  obtain⟨z,hz⟩:∃z,(s.args)[k]? = some z:=⟨_,List.getElem?_eq_getElem hlt⟩
  have hzm:z∈(s.args):=List.mem_of_getElem? hz
  have hzt:=take_snocA hz
  have hix:∀q2,ixD (some 4) q2 (.a (.sl ((s.args).map Ex.at))) (.a (.v (.int .i64 (k:Int))))=some (.a (.ref (Ex.at z) 0)):=fun q2=>ixD_at rfl (by rw [List.getElem?_map,hz];rfl) (by simp only [go_sem])
  have hw:k<9223372036854775807:=by omega
  skip
  replace fx:=And.intro hlt2 (And.intro hix (And.intro hw trivial))
  repeat' (first|refine stp [0,1,2,3,4,5,71,76,85] ?_|(refine stc (r1:=by exact pERight z (by have:=Ex.szs_mem hzm;omega)) (r2:=?_);refine rnx ?_)|refine WP.cn (fun hc=>?_) (fun hc=>?_)|fail)
  ·refine bool_eq ?_
   rw [hte,show (s.args).all (Ex.rightB)=false by rw [List.all_eq_false];exact⟨z,hzm,by simpa using hc⟩]
  ·refine⟨⟨k+1,by omega,by rw [hzt,List.all_append,hinv];simpa using hc⟩,by dsimp only;omega,?_,rfl⟩
   simp only [Agree,go_sem,simprocAttr]
 obtain rfl:k=(s.args).length:=by omega
 rw [List.take_length] at hinv
 have hlt2:decide (((s.args).length:Int)<((s.args).length:Int))=false:=decide_eq_false (by omega)
 replace fx:=And.intro hlt2 trivial
 repeat' (first|refine stp [0,1,2,3,4,5,71,76,85] ?_|refine WP.cn (fun hc=>?_) (fun hc=>?_)|fail)
 exact bool_eq (by rw [hte,hinv])
theorem pStForm (p:Int):∀(m:Nat) (s:St),s.sz≤m→s.sz≤1048576→DPure Tryz.prog 131 [.r (St.at s),.a (.v (.int .i64 p))] (.a (.v (.bool (St.formB p s))))
 | 0,s,h,_=>by have:=s.sz_pos;omega
 | m+1,s,h,hz0=>by
  have IB:∀k∈s.body,DPure Tryz.prog 131 [.r (St.at k),.a (.v (.int .i64 p))] (.a (.v (.bool (St.formB p k)))):=fun k hk=>pStForm p m k (by have:=St.body_lt hk;omega) (by have:=St.body_lt hk;omega)
  have IE:∀k∈s.els,DPure Tryz.prog 131 [.r (St.at k),.a (.v (.int .i64 p))] (.a (.v (.bool (St.formB p k)))):=fun k hk=>pStForm p m k (by have:=St.els_lt hk;omega) (by have:=St.els_lt hk;omega)
  have hse:=s.sz_eq
  have hl1:=St.szs_len s.body
  have hl2:=St.szs_len s.els
  have hfe:=St.form_eq p s
  rw [St.formsB_all,St.formsB_all] at hfe
  refine DPure.go Tryz.func131 rfl Tryz.ntmps131 rfl rfl rfl (fun C hro=>?_)
  have fx:=trivial
  repeat' (first|refine stp [0,1,2,4,5,6,20,25,35,40,50] ?_|(refine stc (r1:=by first|exact pOnly s hz0|exact pNames s p hz0|exact pTells s hz0) (r2:=?_);refine rnx ?_)|refine WP.cn (fun hc=>?_) (fun hc=>?_)|fail)
  ·refine bool_eq ?_
   rw [hfe,hc];rfl
  rw [hc,Bool.not_false,Bool.true_and] at hfe
  refine WP.loop (α:={ k:Nat // k≤(s.body).length∧((s.body).take k).all (St.formB p)=true }) (fun y=>[(1,.a (.v (.int .i64 p))),(2,.a (.ptr 0 0)),(5,.a (.v (.int .i64 y.1)))]) (fun _=>[.cell (St.at s)]) (fun y=>(s.body).length-y.1) ⟨0,by omega,rfl⟩ (by simp only [Agree,go_sem,simprocAttr]) rfl ?_
  rintro⟨k,hk,hinv⟩
  dsimp only
  by_cases hlt:k<(s.body).length
  ·have hlt2:decide ((k:Int)<(((s.body).length:Nat):Int))=true:=decide_eq_true (by omega)
   obtain⟨z,hz⟩:∃z,(s.body)[k]? = some z:=⟨_,List.getElem?_eq_getElem hlt⟩
   have hzm:z∈(s.body):=List.mem_of_getElem? hz
   have hzt:=take_snocA hz
   have hix:∀q2,ixD (some 23) q2 (.a (.sl ((s.body).map St.at))) (.a (.v (.int .i64 (k:Int))))=some (.a (.ref (St.at z) 0)):=fun q2=>ixD_at rfl (by rw [List.getElem?_map,hz];rfl) (by simp only [go_sem])
   have hw:k<9223372036854775807:=by omega
   skip
   replace fx:=And.intro hlt2 (And.intro hix (And.intro hw trivial))
   repeat' (first|refine stp [0,1,2,4,5,6,20,25,35,40,50] ?_|(refine stc (r1:=by exact IB _ hzm) (r2:=?_);refine rnx ?_)|refine WP.cn (fun hc=>?_) (fun hc=>?_)|fail)
   ·refine bool_eq ?_
    rw [hfe,show (s.body).all (St.formB p)=false by rw [List.all_eq_false];exact⟨z,hzm,by simpa using hc⟩];rfl
   ·refine⟨⟨k+1,by omega,by rw [hzt,List.all_append,hinv];simpa using hc⟩,by dsimp only;omega,?_,rfl⟩
    simp only [Agree,go_sem,simprocAttr]
  obtain rfl:k=(s.body).length:=by omega
  rw [List.take_length] at hinv
  have hlt2:decide (((s.body).length:Int)<((s.body).length:Int))=false:=decide_eq_false (by omega)
  rw [hinv,Bool.true_and] at hfe
  replace fx:=And.intro hlt2 trivial
  repeat' (first|refine stp [0,1,2,4,5,6,20,25,35,40,50] ?_|refine WP.cn (fun hc=>?_) (fun hc=>?_)|fail)
  refine WP.loop (α:={ k:Nat // k≤(s.els).length∧((s.els).take k).all (St.formB p)=true }) (fun y=>[(1,.a (.v (.int .i64 p))),(2,.a (.ptr 0 0)),(6,.a (.v (.int .i64 y.1)))]) (fun _=>[.cell (St.at s)]) (fun y=>(s.els).length-y.1) ⟨0,by omega,rfl⟩ (by simp only [Agree,go_sem,simprocAttr]) rfl ?_
  rintro⟨k,hk,hinv⟩
  dsimp only
  by_cases hlt:k<(s.els).length
  ·have hlt2:decide ((k:Int)<(((s.els).length:Nat):Int))=true:=decide_eq_true (by omega)
   obtain⟨z,hz⟩:∃z,(s.els)[k]? = some z:=⟨_,List.getElem?_eq_getElem hlt⟩
   have hzm:z∈(s.els):=List.mem_of_getElem? hz
   have hzt:=take_snocA hz
   have hix:∀q2,ixD (some 23) q2 (.a (.sl ((s.els).map St.at))) (.a (.v (.int .i64 (k:Int))))=some (.a (.ref (St.at z) 0)):=fun q2=>ixD_at rfl (by rw [List.getElem?_map,hz];rfl) (by simp only [go_sem])
   have hw:k<9223372036854775807:=by omega
   skip
   replace fx:=And.intro hlt2 (And.intro hix (And.intro hw trivial))
   repeat' (first|refine stp [0,1,2,4,5,6,20,25,35,40,50] ?_|(refine stc (r1:=by exact IE _ hzm) (r2:=?_);refine rnx ?_)|refine WP.cn (fun hc=>?_) (fun hc=>?_)|fail)
   ·refine bool_eq ?_
    rw [hfe,show (s.els).all (St.formB p)=false by rw [List.all_eq_false];exact⟨z,hzm,by simpa using hc⟩]
   ·refine⟨⟨k+1,by omega,by rw [hzt,List.all_append,hinv];simpa using hc⟩,by dsimp only;omega,?_,rfl⟩
    simp only [Agree,go_sem,simprocAttr]
  obtain rfl:k=(s.els).length:=by omega
  rw [List.take_length] at hinv
  have hlt2:decide (((s.els).length:Int)<((s.els).length:Int))=false:=decide_eq_false (by omega)
  replace fx:=And.intro hlt2 trivial
  repeat' (first|refine stp [0,1,2,4,5,6,20,25,35,40,50] ?_|refine WP.cn (fun hc=>?_) (fun hc=>?_)|fail)
  exact bool_eq (by rw [hfe,hinv])
theorem pStRight (s:St) (p:Int) (hz:s.sz≤1048576):DPure Tryz.prog 61 [.r (St.at s),.a (.v (.int .i64 p))] (.a (.v (.bool (s.rightB p)))):=by
 refine DPure.go Tryz.func61 rfl Tryz.ntmps61 rfl rfl rfl (fun C hro=>?_)
 have fx:=trivial
 repeat' (first|refine stp [0,1,2,4] ?_|(refine stc (r1:=by first|exact pStForm p _ s (Nat.le_refl _) hz|exact pStDeep _ s (Nat.le_refl _) hz) (r2:=?_);refine rnx ?_)|fail)
 refine bool_eq ?_
 unfold St.rightB
 congr 1
 rw [Bool.eq_iff_iff];simp;omega
theorem zlen {α:Type} {l m:List α} (q:α×α→Bool) (h:l.length≠m.length):(l.length==m.length&&(l.zip m).all q)=false:=by
 rw [show (l.length==m.length)=false by simpa using h];rfl
theorem zeql {α:Type} {l m:List α} (q:α×α→Bool) (h:l.length=m.length):(l.length==m.length&&(l.zip m).all q)=(l.zip m).all q:=by
 rw [show (l.length==m.length)=true by simpa using h];rfl
theorem lenB {a b:Nat} (hc:((a:Int) != (b:Int))=true):a≠b:=by rintro rfl;simp at hc
theorem lenE {a b:Nat} (hc:((a:Int) != (b:Int))=false):a=b:=by simp only [bne_eq_false_iff_eq] at hc;omega
end Go.Proofs.YtibdalkdgjghoaaGreatDoor
